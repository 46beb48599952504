/- The plain side of the law FnExactParseVoice: lists and numbers alone. -/
import Derived.Test.YtgeipgflhjakjaaDoorPFnExactParseVoicex7
import Derived.Test.YtgeipgflhjakjaaDoorGlue
import Derived.Test.YtgeipgflhjakjaaDoorTot
set_option linter.unusedVariables false
set_option linter.unusedSimpArgs false
namespace Go.Proofs.YtgeipgflhjakjaaDoor.Pure
open Go.RowKit Go.Proofs.YtgeipgflhjakjaaDoor.PFnExactParseVoice Go.Proofs.YtgeipgflhjakjaaDoorW.PrintWords Go.Proofs.YtgeipgflhjakjaaDoorW.PrintMore Go.Proofs.YtgeipgflhjakjaaDoor.Tot

theorem l1In_eq (a b c : Int) : spec_l1In.f a b c = some (decide (b ≤ a ∧ a ≤ c)) := by
  unfold spec_l1In.f
  by_cases h : b ≤ a <;> simp [h]

theorem eqEventS (l : List S72) (hl : l.length ≤ 1048576) : Tot (fun k => laws_eqEventS.f k l l) (fun r => r = true) := by
  unfold laws_eqEventS.f
  refine tpos rfl ?_
  refine trec (σ := Int) (fun i k => laws_eqEventS.l0 k l l i) (fun i => ((l.length : Int) - i).toNat) (fun i => 0 ≤ i ∧ i ≤ (l.length : Int)) (fun _ r => r = true) ?_ 0 ⟨Int.le_refl _, by omega⟩
  rintro i ⟨h0, h1⟩ ih
  simp only [laws_eqEventS.l0, laws_eqEvent.f, if_true, Option.bind_some]
  refine tite (fun c => ?_) (fun c => tsome rfl)
  refine tpos h0 (tpos (by omega) ?_)
  rw [wrap64_id (by omega) (by omega)]
  exact ih (i + 1) ⟨by omega, by omega⟩ (by (try dsimp only); omega)

def mkEvent (j : Int) (n : Nat) : List S72 := (List.range n).map fun i : Nat => (⟨j + 3 * (i : Int) + 0, j + 3 * (i : Int) + 1, j + 3 * (i : Int) + 2⟩ : S72)
theorem mkEvent_at (j : Int) (n : Nat) (i : Int) (h0 : 0 ≤ i) (h : i < n) : rd_T72 (mkEvent j n) i = ⟨j + 3 * i + 0, j + 3 * i + 1, j + 3 * i + 2⟩ := by
  obtain ⟨m, rfl⟩ := Int.eq_ofNat_of_zero_le h0
  have hm : m < n := by omega
  unfold rd_T72 mkEvent
  simp [List.getD, hm]
theorem markEventS (l : List S72) (j : Int) (hl : l.length ≤ 1048576) (hj : 0 ≤ j) (hj2 : j ≤ 1125899906842624) : Tot (fun k => laws_markEventS.f k l j) (fun r => r = (j + 3 * (l.length : Int), mkEvent j l.length)) := by
  unfold laws_markEventS.f
  have key := trec (σ := List S72 × Int) (fun s k => laws_markEventS.l0 k s.1 (j + 3 * s.2) s.2) (fun s => ((l.length : Int) - s.2).toNat)
    (fun s => 0 ≤ s.2 ∧ s.2 ≤ (l.length : Int) ∧ s.1.length = l.length ∧ ∀ i : Int, 0 ≤ i → i < s.2 → rd_T72 s.1 i = rd_T72 (mkEvent j l.length) i) (fun _ r => r = (j + 3 * (l.length : Int), mkEvent j l.length)) ?_
  · have h := key (l, 0) ⟨Int.le_refl _, by dsimp only; omega, rfl, fun i h0 h1 => by dsimp only at h1; omega⟩
    simpa using h
  · rintro ⟨ys, i⟩ ⟨h0, h1, h2, h3⟩ ih
    dsimp only at h0 h1 h2 h3
    simp only [laws_markEventS.l0, Option.bind_some]
    refine tite (fun c => ?_) (fun c => ?_)
    · refine tpos h0 ?_
      have hi : i.toNat < ys.length := by omega
      have e : ∀ x : S72, rd_T72 (ys.set i.toNat x) i = x := fun x => by
        unfold rd_T72; exact ld_set_self x i (by omega) h0
      simp only [e, List.set_set, wrap64_id (x := j + 3 * i + 1) (by omega) (by omega), wrap64_id (x := j + 3 * i + 1 + 1) (by omega) (by omega), wrap64_id (x := j + 3 * i + 1 + 1 + 1) (by omega) (by omega)]
      rw [show j + 3 * i + 1 + 1 + 1 = j + 3 * (i + 1) by omega, wrap64_id (x := i + 1) (by omega) (by omega)]
      refine ih (_, i + 1) ⟨by dsimp only; omega, by dsimp only; omega, by simp [h2], ?_⟩ (by dsimp only; omega)
      intro p p0 p1
      dsimp only at p1 ⊢
      by_cases ep : p = i
      · subst ep
        rw [e, mkEvent_at j _ p p0 (by omega)]
        congr 1 <;> omega
      · unfold rd_T72
        rw [ld_set_ne _ _ _ h0 p0 (by omega)]
        exact h3 p p0 (by omega)
    · obtain rfl : i = (l.length : Int) := by omega
      refine tsome ?_
      congr 1
      refine ld_ext (z := z72) (by simp [mkEvent, h2]) (fun p p0 p1 => ?_)
      exact h3 p p0 (by omega)

theorem heldEventS (j : Int) (n : Nat) (hn : n ≤ 1048576) (hj : 0 ≤ j) (hj2 : j ≤ 1125899906842624) : Tot (fun k => laws_heldEventS.f k (mkEvent j n) j) (fun r => r = j + 3 * (n : Int)) := by
  unfold laws_heldEventS.f
  have hlen : ((mkEvent j n).length : Int) = n := by simp [mkEvent]
  have key := trec (σ := Int) (fun i k => laws_heldEventS.l0 k (mkEvent j n) (j + 3 * i) i) (fun i => ((n : Int) - i).toNat) (fun i => 0 ≤ i ∧ i ≤ (n : Int)) (fun _ r => r = j + 3 * (n : Int)) ?_ 0 ⟨Int.le_refl _, by omega⟩
  · simpa using key
  · rintro i ⟨h0, h1⟩ ih
    simp only [laws_heldEventS.l0, hlen]
    refine tite (fun c => ?_) (fun c => ?_)
    · refine tpos h0 ?_
      simp only [mkEvent_at j n i h0 c]
      simp only [wrap64_id (x := j + 3 * i + 1) (by omega) (by omega), wrap64_id (x := j + 3 * i + 1 + 1) (by omega) (by omega), wrap64_id (x := j + 3 * i + 1 + 1 + 1) (by omega) (by omega)]
      refine tpos (by first | trivial | omega) ?_
      refine tpos (by first | trivial | omega) ?_
      refine tpos (by first | trivial | omega) ?_
      rw [show j + 3 * i + 1 + 1 + 1 = j + 3 * (i + 1) by omega, wrap64_id (x := i + 1) (by omega) (by omega)]
      exact ih (i + 1) ⟨by omega, by omega⟩ (by (try dsimp only); omega)
    · exact tsome (by omega)

theorem rd_eq (xs : List Int) (i : Int) : rd xs i = xs.getD i.toNat 0 := rfl

theorem ntPitch_eq (a : Int) : spec_ntPitch.f a = some (decide (24 ≤ a ∧ a ≤ 96)) := by
  unfold spec_ntPitch.f
  simp only [l1In_eq, Option.bind_some]

theorem gcd_step (a b : Int) (ha : 0 ≤ a) (hb : 0 < b) : 0 ≤ Int.tmod a b ∧ Int.tmod a b < b ∧ Nat.gcd b.toNat (Int.tmod a b).toNat = Nat.gcd a.toNat b.toNat := by
  obtain ⟨m, rfl⟩ := Int.eq_ofNat_of_zero_le ha
  obtain ⟨n, rfl⟩ := Int.eq_ofNat_of_zero_le (Int.le_of_lt hb)
  have e : Int.tmod (m : Int) (n : Int) = ((m % n : Nat) : Int) := rfl
  rw [e]
  have h1 : m % n < n := Nat.mod_lt _ (by omega)
  refine ⟨by omega, by omega, ?_⟩
  simp only [Int.toNat_natCast]
  rw [Nat.gcd_comm m n, Nat.gcd_rec n m, Nat.gcd_comm]
theorem gcd_tot (a b : Int) (ha : 0 ≤ a) (hb : 0 ≤ b) : Tot (fun k => impl_gcd.f k a b) (fun r => r = (Nat.gcd a.toNat b.toNat : Int)) := by
  unfold impl_gcd.f
  refine trec (σ := Int × Int) (fun s k => impl_gcd.l0 k s.1 s.2) (fun s => s.2.toNat) (fun s => 0 ≤ s.1 ∧ 0 ≤ s.2 ∧ Nat.gcd s.1.toNat s.2.toNat = Nat.gcd a.toNat b.toNat) (fun _ r => r = (Nat.gcd a.toNat b.toNat : Int)) ?_ (a, b) ⟨ha, hb, rfl⟩
  rintro ⟨x, y⟩ ⟨hx, hy, hg⟩ ih
  dsimp only at hx hy hg
  simp only [impl_gcd.l0]
  refine tite (fun c => tsome ?_) (fun c => ?_)
  · subst c
    rw [← hg]
    simp
    omega
  · obtain ⟨h1, h2, h3⟩ := gcd_step x y hx (by omega)
    exact ih (y, Int.tmod x y) ⟨hy, h1, by dsimp only; rw [h3, hg]⟩ (by dsimp only; omega)
theorem gcd_pos (a b : Int) (hb : 0 < b) : 0 < (Nat.gcd a.toNat b.toNat : Int) := by
  have : 0 < Nat.gcd a.toNat b.toNat := Nat.gcd_pos_of_pos_right _ (by omega)
  omega
theorem tdiv_eq (a g : Int) (ha : 0 ≤ a) (ha2 : a ≤ 4611686018427387904) (hg : 0 < g) : wrap64 (Int.tdiv a g) = a / g := by
  rw [Int.tdiv_eq_ediv_of_nonneg ha]
  have h1 : 0 ≤ a / g := Int.ediv_nonneg ha (by omega)
  have h2 : a / g ≤ a := Int.ediv_le_self _ ha
  exact wrap64_id (by omega) (by omega)

theorem noPart_tot (a b : Int) (ha : 0 ≤ a) (ha2 : a ≤ 4611686018427387904) (hb : 0 < b) (hb2 : b ≤ 4611686018427387904) : Tot (fun k => spec_noPart.f k a b) (fun r => r = (a / (Nat.gcd a.toNat b.toNat : Int), b / (Nat.gcd a.toNat b.toNat : Int))) := by
  unfold spec_noPart.f
  have habs : spec_l1Abs.f a = some a := by
    unfold spec_l1Abs.f spec_l1Most.f
    rw [wrap64_id (by omega) (by omega)]
    by_cases h : a > -a
    · rw [if_pos h]; rfl
    · rw [if_neg h]
      have : -a = a := by omega
      rw [this]; rfl
  rw [habs]
  simp only [Option.bind_some]
  have hg := gcd_pos a b hb
  refine trec (σ := Int × Int) (fun s k => spec_noPart.l0 k a b s.1 s.2) (fun s => s.2.toNat) (fun s => 0 ≤ s.1 ∧ 0 ≤ s.2 ∧ Nat.gcd s.1.toNat s.2.toNat = Nat.gcd a.toNat b.toNat) (fun _ r => r = (a / (Nat.gcd a.toNat b.toNat : Int), b / (Nat.gcd a.toNat b.toNat : Int))) ?_ (a, b) ⟨ha, by dsimp only; omega, rfl⟩
  rintro ⟨x, y⟩ ⟨hx, hy, hgx⟩ ih
  dsimp only at hx hy hgx
  simp only [spec_noPart.l0]
  refine tite (fun c => ?_) (fun c => ?_)
  · refine tneg (by omega) ?_
    obtain ⟨h1, h2, h3⟩ := gcd_step x y hx c
    exact ih (y, Int.tmod x y) ⟨hy, h1, by dsimp only; rw [h3, hgx]⟩ (by dsimp only; omega)
  · obtain rfl : y = 0 := by omega
    have e : x = (Nat.gcd a.toNat b.toNat : Int) := by
      rw [← hgx]; simp; omega
    refine tneg (by omega) ?_
    exact tsome (by rw [e, tdiv_eq a _ ha ha2 hg, tdiv_eq b _ (by omega) hb2 hg])

def OkEvent (a b c : Int) : Prop := (a = 0 ∨ (24 ≤ a ∧ a ≤ 96)) ∧ (1 ≤ b ∧ b ≤ 99) ∧ (1 ≤ c ∧ c ≤ 16) ∧ Nat.gcd b.toNat c.toNat = 1
theorem div_one {b g : Int} (hb : 0 < b) (hg : 0 < g) : b / g = b ↔ g = 1 := by
  constructor
  · intro h
    by_cases h1 : 1 < g
    · have h2 : b / g < b := by
        apply Int.ediv_lt_of_lt_mul hg
        have : b * 2 ≤ b * g := Int.mul_le_mul_of_nonneg_left (by omega) (by omega)
        omega
      omega
    · omega
  · intro h; subst h; simp
theorem noEvent_tot (a b c : Int) : Tot (fun k => spec_noEvent.f k a b c) (fun r => (r = true) ↔ OkEvent a b c) := by
  have hF : ¬ OkEvent a b c → Tot (fun _ => some false) (fun r => (r = true) ↔ OkEvent a b c) := fun h => tsome ⟨(fun g => by simp at g), (fun g => absurd g h)⟩
  have hT : (a = 0 ∨ (24 ≤ a ∧ a ≤ 96)) → (1 ≤ b ∧ b ≤ 99) → (1 ≤ c ∧ c ≤ 16) → Tot (fun k => (spec_noPart.f k b c).bind fun r => some (r.2 == c)) (fun r => (r = true) ↔ OkEvent a b c) := by
    intro h1 h2 h3
    refine tbind (noPart_tot b c (by omega) (by omega) (by omega) (by omega)) (fun _ e => ?_); subst e
    refine tsome ?_
    dsimp only
    rw [beq_iff_eq, div_one (by omega) (gcd_pos b c (by omega))]
    exact ⟨fun h => ⟨h1, h2, h3, by omega⟩, fun h => by have := h.2.2.2; omega⟩
  unfold spec_noEvent.f
  simp only [ntPitch_eq, l1In_eq, Option.bind_some, decide_eq_true_eq]
  refine tite (fun c0 => ?_) (fun c0 => tite (fun c1 => ?_) (fun c1 => hF (fun h => by have := h.1; omega)))
  all_goals
    refine tite (fun c2 => ?_) (fun c2 => hF (fun h => c2 h.2.1))
    refine tite (fun c3 => ?_) (fun c3 => hF (fun h => c3 h.2.2.1))
  · exact hT (.inl c0) c2 c3
  · exact hT (.inr c1) c2 c3
theorem implIsPitch_eq (a : Int) : impl_isPitch.f a = some (decide (24 ≤ a ∧ a ≤ 96)) := by
  unfold impl_isPitch.f
  by_cases h : 24 ≤ a <;> simp [h]
theorem isEvent_tot (a b c : Int) : Tot (fun k => impl_isEvent.f k a b c) (fun r => (r = true) ↔ OkEvent a b c) := by
  have hF : ¬ OkEvent a b c → Tot (fun _ => some false) (fun r => (r = true) ↔ OkEvent a b c) := fun h => tsome ⟨(fun g => by simp at g), (fun g => absurd g h)⟩
  have hT : (a = 0 ∨ (24 ≤ a ∧ a ≤ 96)) → 1 ≤ b → b ≤ 99 → 1 ≤ c → c ≤ 16 → Tot (fun k => (impl_gcd.f k b c).bind fun r => some (r == 1)) (fun r => (r = true) ↔ OkEvent a b c) := by
    intro h1 h2 h3 h4 h5
    refine tbind (gcd_tot b c (by omega) (by omega)) (fun _ e => ?_); subst e
    refine tsome ?_
    rw [beq_iff_eq]
    exact ⟨fun h => ⟨h1, ⟨h2, h3⟩, ⟨h4, h5⟩, by omega⟩, fun h => by have := h.2.2.2; omega⟩
  unfold impl_isEvent.f
  simp only [implIsPitch_eq, Option.bind_some, decide_eq_true_eq]
  refine tite (fun c0 => ?_) (fun c0 => tite (fun c1 => ?_) (fun c1 => hF (fun h => by have := h.1; omega)))
  all_goals
    refine tite (fun c2 => ?_) (fun c2 => hF (fun h => by have := h.2.1; omega))
    refine tite (fun c3 => ?_) (fun c3 => hF (fun h => by have := h.2.1; omega))
    refine tite (fun c4 => ?_) (fun c4 => hF (fun h => by have := h.2.2.1; omega))
    refine tite (fun c5 => ?_) (fun c5 => hF (fun h => by have := h.2.2.1; omega))
  · exact hT (.inl c0) c2 c3 c4 c5
  · exact hT (.inr c1) c2 c3 c4 c5
def VoC (l : List S72) (j : Int) : Prop := OkEvent (rd_T72 l j).f0 (rd_T72 l j).f1 (rd_T72 l j).f2
def VoGood (l : List S72) : Prop := (∀ j : Int, 0 ≤ j → j < (l.length : Int) → VoC l j) ∧ (l.length : Int) ≤ 20

theorem impl_IsVoice_tot (l : List S72) (hl : l.length ≤ 1048576) : Tot (fun k => impl_IsVoice.f k l) (fun b => (b = true) ↔ VoGood l) := by
  unfold impl_IsVoice.f
  refine trec (σ := Int) (fun i k => impl_IsVoice.l0 k l l (l.length : Int) i) (fun i => ((l.length : Int) - i).toNat) (fun i => 0 ≤ i ∧ i ≤ (l.length : Int))
    (fun i b => (b = true) ↔ ((∀ j : Int, i ≤ j → j < (l.length : Int) → VoC l j) ∧ (l.length : Int) ≤ 20)) ?_ 0 ⟨Int.le_refl _, by omega⟩
  rintro i ⟨h0, h1⟩ ih
  simp only [impl_IsVoice.l0]
  refine tite (fun c => ?_) (fun c => tsome (all_end c (by simp only [decide_eq_true_eq])))
  refine tpos h0 (tpos c ?_)
  refine tbind (isEvent_tot _ _ _) (fun b hb => ?_)
  refine tite (fun c2 => ?_) (fun c2 => tsome (all_no c (fun h => c2 (hb.2 h))))
  rw [wrap64_id (by omega) (by omega)]
  exact tmono (ih (i + 1) ⟨by omega, by omega⟩ (by (try dsimp only); omega)) (fun b2 hb2 => all_go c (hb.1 c2) hb2)

theorem l1Most_eq (a b : Int) : spec_l1Most.f a b = some (mx a b) := by
  unfold spec_l1Most.f mx
  by_cases h : a > b
  · rw [if_pos h, if_neg (by omega)]
  · rw [if_neg h]
    by_cases h2 : a < b
    · rw [if_pos h2]
    · rw [if_neg h2]
      congr 1; omega

theorem voiceOf_tot (l : List S72) (hl : l.length ≤ 1048576) : Tot (fun k => impl_voiceOf.f k l) (fun r => (VoGood l ∧ r = (l, true)) ∨ (¬ VoGood l ∧ r = ([], false))) := by
  unfold impl_voiceOf.f
  exact tbind (impl_IsVoice_tot l hl) (fun b hb => tite (fun c => tsome (.inl ⟨hb.1 c, rfl⟩)) (fun c => tsome (.inr ⟨fun h => c (hb.2 h), rfl⟩)))

def inpl {α : Type} (f : α → α) (l : List α) (i : Nat) : List α := (l.take i).map f ++ l.drop i
theorem inpl_len {α : Type} (f : α → α) (l : List α) (i : Nat) (h : i ≤ l.length) : (inpl f l i).length = l.length := by
  unfold inpl; simp; omega
theorem inpl_zero {α : Type} (f : α → α) (l : List α) : inpl f l 0 = l := by simp [inpl]
theorem inpl_end {α : Type} (f : α → α) (l : List α) : inpl f l l.length = l.map f := by simp [inpl]
theorem inpl_at {α : Type} (z : α) (f : α → α) (l : List α) (i : Nat) (h : i < l.length) : (inpl f l i).getD i z = l.getD i z := by
  unfold inpl
  have h1 : ((l.take i).map f).length = i := by simp; omega
  rw [List.getD, List.getElem?_append_right (by omega), h1, Nat.sub_self]
  simp [List.getD, h]
theorem inpl_set {α : Type} (z : α) (f : α → α) (l : List α) (i : Nat) (h : i < l.length) : (inpl f l i).set i (f (l.getD i z)) = inpl f l (i + 1) := by
  unfold inpl
  have h1 : ((l.take i).map f).length = i := by simp; omega
  rw [List.set_append_right _ _ (by omega), h1, Nat.sub_self, List.drop_eq_getElem_cons h, List.set_cons_zero, List.take_succ_eq_append_getElem h, List.map_append, List.append_assoc]
  simp [List.getD, h]
theorem take_up {α β : Type} (z : α) (f : α → β) (l : List α) (i : Nat) (h : i < l.length) : (l.take (i + 1)).map f = (l.take i).map f ++ [f (l.getD i z)] := by
  rw [List.take_succ_eq_append_getElem h, List.map_append]
  simp [List.getD, h]

theorem tlet {α β : Type} {v : α} {g : Nat → α → Option β} {Q : β → Prop} (h : Tot (fun k => g k v) Q) : Tot (fun k => (some v).bind fun y => g k y) Q := h
theorem take_drop_erase {α : Type} (l : List α) (m : Nat) : l.take m ++ l.drop (m + 1) = l.eraseIdx m := (List.eraseIdx_eq_take_drop_succ l m).symm
theorem wrapN1 (m : Nat) (h : m ≤ 1048576) : wrap64 ((m : Int) + 1) = ((m + 1 : Nat) : Int) := by rw [wrap64_id (by omega) (by omega)]; rfl
theorem erase_len {α : Type} (l : List α) (m : Nat) (h : l.length ≤ 1048576) : (l.eraseIdx m).length ≤ 1048576 := Nat.le_trans (List.length_eraseIdx_le l m) h

theorem tmonoEv {α : Type} {g : Nat → Option α} {r : α} (hg : ∀ k, LeO (g k) (g (k + 1))) {k : Nat} (h : g k = some r) : Tot g (fun y => y = r) := ⟨r, Ev.of hg h, rfl⟩
def decText (n : Nat) : ByteArray := ⟨(Lib.decDigits n).toArray⟩
theorem decText_small (u : Nat) (h : u < 10) : decText u = strOfNums ([(wrap64 (48 + (u : Int))) % 256] : List Int) := by
  unfold decText Lib.decDigits strOfNums
  rw [dif_pos h]
  have e : (wrap64 (48 + (u : Int))) % 256 = ((48 + u : Nat) : Int) := by unfold wrap64; omega
  rw [e]
  rfl
theorem decText_big (u : Nat) (h : ¬ u < 10) (h2 : u < 1000000000) : decText u = decText (u / 10) ++ strOfNums ([(wrap64 (48 + ((u % 10 : Nat) : Int))) % 256] : List Int) := by
  have e : (wrap64 (48 + ((u % 10 : Nat) : Int))) % 256 = ((48 + u % 10 : Nat) : Int) := by unfold wrap64; omega
  rw [e]
  have e1 : Lib.decDigits u = Lib.decDigits (u / 10) ++ [UInt8.ofNat (48 + u % 10)] := by
    conv => lhs; unfold Lib.decDigits
    rw [dif_neg h]
  unfold decText strOfNums
  rw [e1]
  apply ByteArray.ext
  simp
  rw [show (48 + (u : Int) % 10).toNat = 48 + u % 10 by omega, UInt8.ofNat_add]
  rfl
theorem decText_size (u : Nat) (h : u < 1000000000) : (decText u).size ≤ 9 ∧ 1 ≤ (decText u).size := by
  have key : ∀ (d u : Nat), u < 10 ^ (d + 1) → d ≤ 8 → (decText u).size ≤ d + 1 ∧ 1 ≤ (decText u).size := by
    intro d
    induction d with
    | zero => intro u hu _; rw [decText_small u (by omega)]; exact ⟨Nat.le_refl _, Nat.le_refl _⟩
    | succ d ih =>
      intro u hu hd
      by_cases h10 : u < 10
      · rw [decText_small u h10]
        exact ⟨by show 1 ≤ _; omega, Nat.le_refl _⟩
      · have hlt : u < 1000000000 := Nat.lt_of_lt_of_le hu (Nat.pow_le_pow_right (by omega) (show d + 1 + 1 ≤ 9 by omega))
        rw [decText_big u h10 hlt, ByteArray.size_append]
        have h1 := ih (u / 10) (by rw [Nat.pow_succ] at hu; omega) (by omega)
        have h2 : (strOfNums ([(wrap64 (48 + ((u % 10 : Nat) : Int))) % 256] : List Int)).size = 1 := rfl
        omega
  exact key 8 u (by omega) (by omega)
theorem l1Num_tot (u : Nat) (h : u < 1000000000) : Tot (fun k => spec_l1Num.f k (u : Int)) (fun r => r = decText u) := by
  induction u using Nat.strongRecOn with
  | ind u ih =>
    refine tstep ?_
    simp only [spec_l1Num.f]
    refine tite (fun c => tsome (decText_small u (by omega)).symm) (fun c => ?_)
    have e1 : wrap64 (Int.tdiv (u : Int) 10) = ((u / 10 : Nat) : Int) := by
      rw [Int.tdiv_eq_ediv_of_nonneg (by omega)]; unfold wrap64; omega
    have e2 : Int.tmod (u : Int) 10 = ((u % 10 : Nat) : Int) := by rw [Int.tmod_eq_emod_of_nonneg (by omega)]; omega
    rw [e1, e2]
    refine tbind (ih (u / 10) (by omega) (by omega)) (fun _ e => ?_); subst e
    show Tot (fun _ => if (decText (u / 10)).size + (strOfNums ([(wrap64 (48 + ((u % 10 : Nat) : Int))) % 256] : List Int)).size ≤ 9223372036854775807 then some (decText (u / 10) ++ strOfNums ([(wrap64 (48 + ((u % 10 : Nat) : Int))) % 256] : List Int)) else none) _
    have hs := (decText_size (u / 10) (by omega)).1
    have h2 : (strOfNums ([(wrap64 (48 + ((u % 10 : Nat) : Int))) % 256] : List Int)).size = 1 := rfl
    exact tpos (by omega) (tsome (decText_big u (by omega) h).symm)

def noteNames : List ByteArray := [(⟨#[99]⟩ : ByteArray), (⟨#[99, 35]⟩ : ByteArray), (⟨#[100]⟩ : ByteArray), (⟨#[100, 35]⟩ : ByteArray), (⟨#[101]⟩ : ByteArray), (⟨#[102]⟩ : ByteArray), (⟨#[102, 35]⟩ : ByteArray), (⟨#[103]⟩ : ByteArray), (⟨#[103, 35]⟩ : ByteArray), (⟨#[97]⟩ : ByteArray), (⟨#[97, 35]⟩ : ByteArray), (⟨#[98]⟩ : ByteArray)]
def pitchText (a : Int) : ByteArray := rdOf ByteArray.empty noteNames (a % 12) ++ decText (a / 12).toNat
theorem noteName_size (i : Int) (h0 : 0 ≤ i) (h1 : i < 12) : (rdOf ByteArray.empty noteNames i).size ≤ 2 ∧ 1 ≤ (rdOf ByteArray.empty noteNames i).size := by
  obtain rfl | rfl | rfl | rfl | rfl | rfl | rfl | rfl | rfl | rfl | rfl | rfl : i = 0 ∨ i = 1 ∨ i = 2 ∨ i = 3 ∨ i = 4 ∨ i = 5 ∨ i = 6 ∨ i = 7 ∨ i = 8 ∨ i = 9 ∨ i = 10 ∨ i = 11 := by omega
  all_goals decide
theorem pitchText_size (a : Int) (h0 : 24 ≤ a) (h1 : a ≤ 96) : (pitchText a).size ≤ 11 ∧ 1 ≤ (pitchText a).size := by
  unfold pitchText
  rw [ByteArray.size_append]
  have h := noteName_size (a % 12) (by omega) (by omega)
  have h2 := decText_size (a / 12).toNat (by omega)
  omega
theorem ntName_tot (a : Int) (h0 : 24 ≤ a) (h1 : a ≤ 96) : Tot (fun k => spec_ntName.f k a) (fun r => r = pitchText a) := by
  have e1 : wrap64 (Int.tdiv a 12) = (((a / 12).toNat : Nat) : Int) := by rw [Int.tdiv_eq_ediv_of_nonneg (by omega)]; unfold wrap64; omega
  have e2 : Int.tmod a 12 = a % 12 := Int.tmod_eq_emod_of_nonneg (by omega)
  unfold spec_ntName.f spec_ntNames.f
  simp only [e1, e2, Option.bind_some]
  refine tpos (by omega) (tpos (by simp; omega) ?_)
  refine tbind (l1Num_tot (a / 12).toNat (by omega)) (fun _ e => ?_); subst e
  have h := noteName_size (a % 12) (by omega) (by omega)
  have h2 := decText_size (a / 12).toNat (by omega)
  exact tpos (by unfold noteNames at h; omega) (tsome rfl)
theorem pitchName_eq (a : Int) (h0 : 24 ≤ a) (h1 : a ≤ 96) : impl_pitchName.f a = some (pitchText a) := by
  have e1 : wrap64 (Int.tdiv a 12) = (((a / 12).toNat : Nat) : Int) := by rw [Int.tdiv_eq_ediv_of_nonneg (by omega)]; unfold wrap64; omega
  have e2 : Int.tmod a 12 = a % 12 := Int.tmod_eq_emod_of_nonneg (by omega)
  unfold impl_pitchName.f itoa.f
  simp only [e1, e2, Option.bind_some]
  have h := noteName_size (a % 12) (by omega) (by omega)
  have h2 := decText_size (a / 12).toNat (by omega)
  unfold noteNames at h
  unfold decText at h2
  rw [if_pos (by omega), if_pos (by simp; omega), if_pos (by omega), if_pos (by omega)]
  simp only [Option.bind_some, Int.toNat_natCast]
  rw [if_pos (by omega)]
  rfl

theorem join_snoc (xs : List (List UInt8)) (y sep : List UInt8) (h : xs ≠ []) : Lib.join (xs ++ [y]) sep = Lib.join xs sep ++ (sep ++ y) := by
  cases xs with
  | nil => exact absurd rfl h
  | cons x r =>
    rw [List.cons_append, Lib.join_cons, Lib.join_cons, List.append_assoc]
    congr 1
    simp [Lib.joinTail]

def nameText (a : Int) : ByteArray := if a = 0 then (⟨#[114]⟩ : ByteArray) else pitchText a
def slotText (e : S72) : ByteArray := (((nameText e.f0 ++ (⟨#[42]⟩ : ByteArray)) ++ decText e.f1.toNat) ++ (⟨#[47]⟩ : ByteArray)) ++ decText e.f2.toNat
def voUpto (l : List S72) : Nat → ByteArray
  | 0 => ⟨#[]⟩
  | i + 1 => (if i = 0 then voUpto l i else voUpto l i ++ (⟨#[32]⟩ : ByteArray)) ++ slotText (rd_T72 l i)
def evUpto (l : List S72) : Nat → List ByteArray
  | 0 => []
  | i + 1 => evUpto l i ++ [slotText (rd_T72 l i)]
theorem evUpto_len (l : List S72) (i : Nat) : (evUpto l i).length = i := by
  induction i with
  | zero => rfl
  | succ i ih => simp [evUpto, ih]
theorem ev_join (l : List S72) (i : Nat) : Lib.join ((evUpto l i).map (·.data.toList)) [32] = (voUpto l i).data.toList := by
  induction i with
  | zero => rfl
  | succ i ih =>
    unfold evUpto voUpto
    rw [List.map_append, List.map_cons, List.map_nil]
    by_cases h : i = 0
    · subst h
      rw [if_pos rfl]
      simp [evUpto, voUpto, Lib.join_one]
    · rw [if_neg h, join_snoc _ _ _ (fun hn => h (by
        have := congrArg List.length hn
        simpa [evUpto_len] using this)), ih]
      simp
theorem nameText_size (a : Int) (h : a = 0 ∨ (24 ≤ a ∧ a ≤ 96)) : (nameText a).size ≤ 11 := by
  unfold nameText
  split
  · exact (by decide : (⟨#[114]⟩ : ByteArray).size ≤ 11)
  · exact (pitchText_size a (by omega) (by omega)).1
theorem slotText_size (e : S72) (h : OkEvent e.f0 e.f1 e.f2) : (slotText e).size ≤ 31 := by
  obtain ⟨h1, h2, h3, _⟩ := h
  have n1 := nameText_size e.f0 h1
  have d1 := (decText_size e.f1.toNat (by omega)).1
  have d2 := (decText_size e.f2.toNat (by omega)).1
  unfold slotText
  simp only [ByteArray.size_append, show (⟨#[42]⟩ : ByteArray).size = 1 from rfl, show (⟨#[47]⟩ : ByteArray).size = 1 from rfl]
  omega
theorem voUpto_size (l : List S72) (hg : VoGood l) (i : Nat) (hi : i ≤ l.length) : (voUpto l i).size ≤ 32 * i := by
  induction i with
  | zero => exact Nat.le_refl _
  | succ i ih =>
    have h1 := ih (by omega)
    have h2 := slotText_size _ (hg.1 i (by omega) (by omega))
    unfold voUpto
    split
    · rw [ByteArray.size_append]; omega
    · simp only [ByteArray.size_append, show (⟨#[32]⟩ : ByteArray).size = 1 from rfl]; omega
theorem noText_tot (l : List S72) (hg : VoGood l) : Tot (fun k => spec_noText.f k l) (fun r => r = voUpto l l.length) := by
  have hn := hg.2
  unfold spec_noText.f
  refine trec (σ := Nat) (fun i k => spec_noText.l0 k (voUpto l i) l (l.length : Int) (i : Int)) (fun i => l.length - i) (fun i => i ≤ l.length) (fun _ r => r = voUpto l l.length) ?_ 0 (Nat.zero_le _)
  intro i hi ih
  have hsz := voUpto_size l hg i hi
  simp only [spec_noText.l0]
  refine tite (fun c => ?_) (fun c => tsome (by rw [show i = l.length by omega]))
  refine tpos (by omega) (tpos c ?_)
  have hc := hg.1 i (by omega) c
  obtain ⟨h1, h2, h3, _⟩ := hc
  have d1 := (decText_size (rd_T72 l i).f1.toNat (by omega)).1
  have d2 := (decText_size (rd_T72 l i).f2.toNat (by omega)).1
  have n1 := nameText_size (rd_T72 l i).f0 h1
  have key : ∀ x : ByteArray, x.size ≤ 700 → x ++ slotText (rd_T72 l i) = voUpto l (i + 1) → Tot (fun k => spec_noText.j1 k x l (l.length : Int) (i : Int) (rd_T72 l i).f0 (rd_T72 l i).f1 (rd_T72 l i).f2) (fun r => r = voUpto l l.length) := by
    intro x hx he
    have go : ∀ y, y = voUpto l (i + 1) → Tot (fun k => spec_noText.l0 k y l (l.length : Int) (wrap64 ((i : Int) + 1))) (fun r => r = voUpto l l.length) := fun y hy => by
      rw [hy, wrap64_id (by omega) (by omega)]
      have := ih (i + 1) (by omega) (by omega)
      simpa using this
    have z42 : (⟨#[42]⟩ : ByteArray).size = 1 := rfl
    have z47 : (⟨#[47]⟩ : ByteArray).size = 1 := rfl
    have z114 : (⟨#[114]⟩ : ByteArray).size = 1 := rfl
    have b1 : Tot (fun k => spec_l1Num.f k (rd_T72 l i).f1) (fun r => r = decText (rd_T72 l i).f1.toNat) := by
      have := l1Num_tot (rd_T72 l i).f1.toNat (by omega)
      rwa [show (((rd_T72 l i).f1.toNat : Nat) : Int) = (rd_T72 l i).f1 by omega] at this
    have b2 : Tot (fun k => spec_l1Num.f k (rd_T72 l i).f2) (fun r => r = decText (rd_T72 l i).f2.toNat) := by
      have := l1Num_tot (rd_T72 l i).f2.toNat (by omega)
      rwa [show (((rd_T72 l i).f2.toNat : Nat) : Int) = (rd_T72 l i).f2 by omega] at this
    refine tstep ?_
    simp only [spec_noText.j1]
    refine tite (fun c2 => ?_) (fun c2 => ?_)
    · refine tbind (ntName_tot _ (by omega) (by omega)) (fun _ e => ?_); subst e
      have n2 := (pitchText_size (rd_T72 l i).f0 (by omega) (by omega)).1
      refine tpos (by omega) ?_
      refine tbind b1 (fun _ e => ?_); subst e
      refine tpos (by omega) (tpos (by simp only [ByteArray.size_append, z42]; omega) ?_)
      refine tbind b2 (fun _ e => ?_); subst e
      refine tpos (by simp only [ByteArray.size_append, z42, z47]; omega) (tpos (by simp only [ByteArray.size_append, z42, z47]; omega) ?_)
      refine go _ ?_
      rw [← he]
      unfold slotText nameText
      rw [if_neg (by omega)]
      simp only [ByteArray.append_assoc]
    · have e0 : (rd_T72 l i).f0 = 0 := by omega
      refine tpos (by omega) ?_
      refine tbind b1 (fun _ e => ?_); subst e
      refine tpos (by omega) (tpos (by simp only [ByteArray.size_append, z42]; omega) ?_)
      refine tbind b2 (fun _ e => ?_); subst e
      refine tpos (by simp only [ByteArray.size_append, z42, z47]; omega) (tpos (by simp only [ByteArray.size_append, z42, z47, z114]; omega) ?_)
      refine go _ ?_
      rw [← he]
      unfold slotText nameText
      rw [if_pos e0]
      simp only [ByteArray.append_assoc]
  refine tite (fun c2 => ?_) (fun c2 => ?_)
  · refine tpos (by omega) (key _ (by simp only [ByteArray.size_append, show (⟨#[32]⟩ : ByteArray).size = 1 from rfl]; omega) ?_)
    conv => rhs; unfold voUpto
    rw [if_neg (by omega)]
  · refine key _ (by omega) ?_
    conv => rhs; unfold voUpto
    rw [if_pos (by omega)]

def sp (c : UInt8) : List UInt8 → List (List UInt8)
  | [] => [[]]
  | b :: l => if b = c then [] :: sp c l else (b :: (sp c l).headD []) :: (sp c l).tail
theorem sp_ne (c : UInt8) (l : List UInt8) : sp c l ≠ [] := by
  cases l with
  | nil => simp [sp]
  | cons b l => unfold sp; split <;> simp
theorem sp_cons (c : UInt8) (l : List UInt8) : ∃ x r, sp c l = x :: r := by
  cases h : sp c l with
  | nil => exact absurd h (sp_ne c l)
  | cons x r => exact ⟨x, r, rfl⟩
theorem sp_join (c : UInt8) (l : List UInt8) : Lib.join (sp c l) [c] = l := by
  induction l with
  | nil => rfl
  | cons b l ih =>
    obtain ⟨x, r, e⟩ := sp_cons c l
    rw [e, Lib.join_cons] at ih
    unfold sp
    by_cases h : b = c
    · subst h
      rw [if_pos rfl, e, Lib.join_cons]
      simp only [Lib.joinTail, List.map_cons, List.flatten_cons, List.nil_append, List.cons_append] at ih ⊢
      rw [ih]
    · rw [if_neg h, e, Lib.join_cons]
      simp only [List.headD_cons, List.tail_cons, List.cons_append]
      rw [ih]
theorem sp_none (c : UInt8) (x : List UInt8) (h : c ∉ x) : sp c x = [x] := by
  induction x with
  | nil => rfl
  | cons b l ih =>
    have hb : b ≠ c := fun e => h (by simp [e])
    unfold sp
    rw [if_neg hb, ih (fun e => h (by simp [e]))]
    rfl
theorem sp_hit (c : UInt8) (x l : List UInt8) (h : c ∉ x) : sp c (x ++ c :: l) = x :: sp c l := by
  induction x with
  | nil => simp [sp]
  | cons b x ih =>
    have hb : b ≠ c := fun e => h (by simp [e])
    rw [List.cons_append]
    have ih' := ih (fun e => h (by simp [e]))
    conv => lhs; unfold sp
    rw [if_neg hb, ih']
    rfl
theorem sp_of_join (c : UInt8) (ws : List (List UInt8)) (h0 : ws ≠ []) (h : ∀ w ∈ ws, c ∉ w) : sp c (Lib.join ws [c]) = ws := by
  induction ws with
  | nil => exact absurd rfl h0
  | cons x r ih =>
    rw [Lib.join_cons]
    cases r with
    | nil => simp only [Lib.joinTail, List.map_nil, List.flatten_nil, List.append_nil]; exact sp_none c x (h x (by simp))
    | cons y r =>
      have := ih (by simp) (fun w hw => h w (List.mem_cons_of_mem _ hw))
      rw [Lib.join_cons] at this
      simp only [Lib.joinTail, List.map_cons, List.flatten_cons, List.append_assoc, List.nil_append, List.cons_append] at this ⊢
      rw [sp_hit c x _ (h x (by simp)), this]
theorem mem_sp (c : UInt8) (l : List UInt8) : ∀ w ∈ sp c l, c ∉ w := by
  induction l with
  | nil => simp [sp]
  | cons b l ih =>
    obtain ⟨x, r, e⟩ := sp_cons c l
    unfold sp
    rw [e] at ih ⊢
    by_cases h : b = c
    · rw [if_pos h]
      intro w hw
      rcases List.mem_cons.1 hw with rfl | hw
      · simp
      · exact ih w hw
    · rw [if_neg h]
      intro w hw
      simp only [List.headD_cons, List.tail_cons] at hw
      rcases List.mem_cons.1 hw with rfl | hw
      · intro hc
        rcases List.mem_cons.1 hc with e | hc
        · exact h e.symm
        · exact ih x (by simp) hc
      · exact ih w (List.mem_cons_of_mem _ hw)
theorem sp_len (c : UInt8) (l : List UInt8) : (sp c l).length ≤ l.length + 1 := by
  induction l with
  | nil => simp [sp]
  | cons b l ih =>
    obtain ⟨x, r, e⟩ := sp_cons c l
    unfold sp
    rw [e] at ih ⊢
    split <;> simp at ih ⊢ <;> omega
theorem find_c (c : UInt8) (l : List UInt8) : c ∉ l ∨ ∃ x r, c ∉ x ∧ l = x ++ c :: r := by
  induction l with
  | nil => exact .inl (by simp)
  | cons b l ih =>
    by_cases h : b = c
    · subst h; exact .inr ⟨[], l, by simp, rfl⟩
    · rcases ih with ih | ⟨x, r, h1, rfl⟩
      · exact .inl (fun hc => (List.mem_cons.1 hc).elim (fun e => h e.symm) ih)
      · exact .inr ⟨b :: x, r, fun hc => (List.mem_cons.1 hc).elim (fun e => h e.symm) h1, rfl⟩
theorem index_none1 (c : UInt8) (l : List UInt8) (h : c ∉ l) : Lib.index l [c] = -1 := by
  induction l with
  | nil => rfl
  | cons b l ih =>
    have hb : b ≠ c := fun e => h (by simp [e])
    have hp : ([c] : List UInt8).isPrefixOf (b :: l) = false := by simp [List.isPrefixOf, Ne.symm hb]
    rw [Lib.index, hp, ih (fun e => h (by simp [e]))]
    rfl
theorem index_hit1 (c : UInt8) (x r : List UInt8) (h : c ∉ x) : Lib.index (x ++ c :: r) [c] = x.length := by
  induction x with
  | nil => simp [Lib.index, List.isPrefixOf]
  | cons b x ih =>
    have hb : b ≠ c := fun e => h (by simp [e])
    have hp : ([c] : List UInt8).isPrefixOf (b :: (x ++ c :: r)) = false := by simp [List.isPrefixOf, Ne.symm hb]
    rw [List.cons_append, Lib.index, hp, ih (fun e => h (by simp [e]))]
    simp
theorem splitK_sp (c : UInt8) : ∀ (n : Nat) (l : List UInt8), l.length ≤ n → Lib.splitK [c] 0 (l.count c) l = sp c l
  | n, l, hn => by
    rcases find_c c l with h | ⟨x, r, h, rfl⟩
    · rw [List.count_eq_zero.2 h, sp_none c l h]; rfl
    · have hc : (x ++ c :: r).count c = r.count c + 1 := by rw [List.count_append, List.count_eq_zero.2 h, List.count_cons_self, Nat.zero_add]
      cases n with
      | zero => simp at hn
      | succ n =>
        have hr : r.length ≤ n := by simp at hn; omega
        rw [hc, Lib.splitK, index_hit1 c x r h, sp_hit c x r h, ← splitK_sp c n r hr]
        rw [if_neg (by simp)]
        simp
theorem splitB_sp (c : UInt8) (s : ByteArray) : (Lib.splitB ⟨#[c]⟩ 0 (Lib.countB s ⟨#[c]⟩) s).map (·.data.toList) = sp c s.data.toList := by
  rw [Lib.splitB_data]
  show Lib.splitK [c] 0 (Lib.count s.data.toList [c]) s.data.toList = _
  rw [Lib.count_one, splitK_sp c _ _ (Nat.le_refl _)]

theorem ex_data (s : ByteArray) (a b : Nat) : (s.extract a b).data.toList = (s.data.toList.drop a).take (b - a) := by
  rw [ByteArray.data_extract, Array.toList_extract, List.extract_eq_take_drop]
theorem bs_len (s : ByteArray) : s.data.toList.length = s.size := by rw [Array.length_toList]; rfl
theorem bs_ext {s t : ByteArray} (h : s.data.toList = t.data.toList) : s = t := by
  cases s; cases t; simp only [ByteArray.mk.injEq]; exact Array.toList_inj.1 h
theorem bt_eq (s : ByteArray) (i : Nat) (h : i < s.size) : bt s (i : Int) = ((s.data.toList.getD i 0).toNat : Int) := by
  have hl : i < s.data.toList.length := by rw [bs_len]; exact h
  unfold bt
  rw [dif_pos (by simpa using h), List.getD_eq_getElem?_getD, List.getElem?_eq_getElem hl]
  rfl
theorem drop_at (l : List UInt8) (i : Nat) (h : i < l.length) : l.drop i = l.getD i 0 :: l.drop (i + 1) := by
  rw [List.getD_eq_getElem?_getD, List.getElem?_eq_getElem h, List.drop_eq_getElem_cons h]
  rfl
theorem take_at (l : List UInt8) (i : Nat) (h : i < l.length) : l.take (i + 1) = l.take i ++ [l.getD i 0] := by
  rw [List.getD_eq_getElem?_getD, List.getElem?_eq_getElem h, List.take_add_one, List.getElem?_eq_getElem h]
  rfl
theorem l1Split_tot (s : ByteArray) (c : UInt8) (hs : s.size ≤ 1048576) : Tot (fun k => spec_l1Split.f k s (c.toNat : Int)) (fun r => r.map (·.data.toList) = sp c s.data.toList) := by
  unfold spec_l1Split.f
  have hlen := bs_len s
  refine trec (σ := List ByteArray × Nat × Nat) (fun q k => spec_l1Split.l0 k s (c.toNat : Int) q.1 (q.2.1 : Int) (q.2.2 : Int)) (fun q => s.size - q.2.2)
    (fun q => q.2.1 ≤ q.2.2 ∧ q.2.2 ≤ s.size ∧ q.1.length ≤ q.2.1 ∧ c ∉ (s.data.toList.drop q.2.1).take (q.2.2 - q.2.1) ∧ q.1.map (·.data.toList) ++ sp c (s.data.toList.drop q.2.1) = sp c s.data.toList)
    (fun _ r => r.map (·.data.toList) = sp c s.data.toList) ?_ ([], 0, 0) ⟨Nat.le_refl _, Nat.zero_le _, Nat.le_refl _, by simp, by simp⟩
  rintro ⟨acc, st, i⟩ ⟨h1, h2, h3, h4, h5⟩ ih
  dsimp only at h1 h2 h3 h4 h5 ⊢
  simp only [spec_l1Split.l0]
  refine tite (fun cc => ?_) (fun cc => ?_)
  · refine tpos (by omega) ?_
    have hi : i < s.size := by omega
    rw [bt_eq s i hi]
    have hw : s.data.toList.drop st = (s.data.toList.drop st).take (i - st) ++ s.data.toList.getD i 0 :: s.data.toList.drop (i + 1) := by
      conv => lhs; rw [← List.take_append_drop (i - st) (s.data.toList.drop st)]
      rw [List.drop_drop, show st + (i - st) = i by omega, drop_at _ i (by omega)]
    refine tite (fun c2 => ?_) (fun c2 => ?_)
    · have hc : s.data.toList.getD i 0 = c := UInt8.toNat_inj.1 (by omega)
      refine tpos (by omega) (tpos (by omega) (tpos (by omega) (tpos (by omega) ?_)))
      rw [wrap64_id (by omega) (by omega)]
      have := ih (acc ++ [s.extract st i], i + 1, i + 1) ⟨Nat.le_refl _, by dsimp only; omega, by simp; omega, by simp, ?_⟩ (by dsimp only; omega)
      · simpa using this
      · rw [List.map_append, List.map_cons, List.map_nil, ex_data, ← h5]
        conv => rhs; rw [hw, hc, sp_hit c _ _ h4]
        simp
    · rw [wrap64_id (by omega) (by omega)]
      have hc : s.data.toList.getD i 0 ≠ c := fun e => c2 (by rw [e])
      have := ih (acc, st, i + 1) ⟨by dsimp only; omega, by dsimp only; omega, h3, ?_, h5⟩ (by dsimp only; omega)
      · simpa using this
      · dsimp only
        rw [show i + 1 - st = (i - st) + 1 by omega, take_at _ (i - st) (by rw [List.length_drop]; omega)]
        intro hm
        rcases List.mem_append.1 hm with hm | hm
        · exact h4 hm
        · simp only [List.mem_singleton] at hm
          apply hc
          rw [hm, List.getD_eq_getElem?_getD, List.getD_eq_getElem?_getD, List.getElem?_drop, show st + (i - st) = i by omega]
  · obtain rfl : i = s.size := by omega
    refine tpos (by omega) (tpos (by omega) (tpos (by omega) (tsome ?_)))
    rw [List.map_append, List.map_cons, List.map_nil, ← h5]
    have e : (s.extract st s.size).data.toList = s.data.toList.drop st := by
      rw [ex_data, List.take_of_length_le (by rw [List.length_drop]; omega)]
    have h4' : c ∉ s.data.toList.drop st := by rwa [List.take_of_length_le (by rw [List.length_drop]; omega)] at h4
    simp only [Int.toNat_natCast]
    rw [e, sp_none c _ h4']
theorem split_eq (s : ByteArray) (c : UInt8) (hs : s.size ≤ 1048576) : ∃ r, strings_Split.f s ⟨#[c]⟩ = some r ∧ r.map (·.data.toList) = sp c s.data.toList := by
  refine ⟨Lib.splitB ⟨#[c]⟩ 0 (Lib.countB s ⟨#[c]⟩) s, ?_, splitB_sp c s⟩
  unfold strings_Split.f
  rw [if_pos (show 1 ≤ (⟨#[c]⟩ : ByteArray).size from Nat.le_refl 1), if_pos (by omega)]
theorem snoc_ind {motive : List UInt8 → Prop} (nil : motive []) (append_singleton : ∀ (l : List UInt8) (b : UInt8), motive l → motive (l ++ [b])) (l : List UInt8) : motive l := by
  have key : ∀ l : List UInt8, motive l.reverse := by
    intro l
    induction l with
    | nil => exact nil
    | cons b l ih => rw [List.reverse_cons]; exact append_singleton _ _ ih
  have := key l.reverse
  rwa [List.reverse_reverse] at this
def dval (l : List UInt8) : Nat := l.foldl (fun a b => 10 * a + (b.toNat - 48)) 0
def Dig (b : UInt8) : Prop := 48 ≤ b.toNat ∧ b.toNat ≤ 57
def Can (l : List UInt8) : Prop := l ≠ [] ∧ (∀ b ∈ l, Dig b) ∧ (l.getD 0 0 ≠ 48 ∨ l.length = 1)
theorem dval_snoc (l : List UInt8) (b : UInt8) : dval (l ++ [b]) = 10 * dval l + (b.toNat - 48) := by simp [dval, List.foldl_append]
theorem dval_lt (l : List UInt8) (h : ∀ b ∈ l, Dig b) : dval l < 10 ^ l.length := by
  induction l using snoc_ind with
  | nil => simp [dval]
  | append_singleton l b ih =>
    have := ih (fun x hx => h x (by simp [hx]))
    have hb := h b (by simp)
    unfold Dig at hb
    rw [dval_snoc, List.length_append, List.length_singleton, Nat.pow_succ]
    omega
theorem dval_pos (l : List UInt8) (h : ∀ b ∈ l, Dig b) (h0 : l ≠ []) (h1 : l.getD 0 0 ≠ 48) : 1 ≤ dval l := by
  induction l using snoc_ind with
  | nil => exact absurd rfl h0
  | append_singleton l b ih =>
    have hb := h b (by simp)
    unfold Dig at hb
    rw [dval_snoc]
    cases l with
    | nil =>
      simp only [List.nil_append, List.getD_cons_zero] at h1
      have : b.toNat ≠ 48 := fun e => h1 (UInt8.toNat_inj.1 e)
      omega
    | cons x r =>
      have := ih (fun y hy => h y (by simp at hy ⊢; rcases hy with rfl | hy <;> simp [*])) (by simp) (by simpa using h1)
      omega
theorem can_dec (l : List UInt8) (h : Can l) : Lib.decDigits (dval l) = l := by
  induction l using snoc_ind with
  | nil => exact absurd rfl h.1
  | append_singleton l b ih =>
    have hb := h.2.1 b (by simp)
    unfold Dig at hb
    rw [dval_snoc]
    cases l with
    | nil =>
      unfold Lib.decDigits
      rw [dif_pos (by simp [dval]; omega)]
      simp only [List.nil_append, List.cons.injEq, and_true]
      apply UInt8.toNat_inj.1
      simp [dval]
      omega
    | cons x r =>
      have hd : ∀ y ∈ x :: r, Dig y := fun y hy => h.2.1 y (by simp at hy ⊢; rcases hy with rfl | hy <;> simp [*])
      have h48 : (x :: r).getD 0 0 ≠ 48 := by
        rcases h.2.2 with h3 | h3
        · simpa using h3
        · simp at h3
      have h1 := dval_pos (x :: r) hd (by simp) h48
      have h2 := ih ⟨by simp, hd, .inl h48⟩
      unfold Lib.decDigits
      rw [dif_neg (by omega), show (10 * dval (x :: r) + (b.toNat - 48)) / 10 = dval (x :: r) by omega, h2]
      congr 1
      simp only [List.cons.injEq, and_true]
      apply UInt8.toNat_inj.1
      simp
      omega
theorem dec_can (n : Nat) : Can (Lib.decDigits n) ∧ dval (Lib.decDigits n) = n ∧ (1 ≤ n → (Lib.decDigits n).getD 0 0 ≠ 48) := by
  induction n using Nat.strongRecOn with
  | ind n ih =>
    unfold Lib.decDigits
    by_cases h : n < 10
    · rw [dif_pos h]
      have e : (UInt8.ofNat (48 + n)).toNat = 48 + n := by simp; omega
      refine ⟨⟨by simp, fun b hb => ?_, .inr rfl⟩, ?_, fun h1 => ?_⟩
      · simp only [List.mem_singleton] at hb
        subst hb
        unfold Dig; rw [e]; omega
      · show 10 * 0 + ((UInt8.ofNat (48 + n)).toNat - 48) = n
        rw [e]; omega
      · simp only [List.getD_cons_zero]
        intro hc
        have := congrArg UInt8.toNat hc
        rw [e] at this
        have : (48 : UInt8).toNat = 48 := rfl
        omega
    · rw [dif_neg h]
      obtain ⟨⟨h1, h2, h3⟩, h4, h5⟩ := ih (n / 10) (by omega)
      have e : (UInt8.ofNat (48 + n % 10)).toNat = 48 + n % 10 := by simp; omega
      have h6 := h5 (by omega)
      have hg : (Lib.decDigits (n / 10) ++ [UInt8.ofNat (48 + n % 10)]).getD 0 0 = (Lib.decDigits (n / 10)).getD 0 0 := by
        cases hh : Lib.decDigits (n / 10) with
        | nil => exact absurd hh h1
        | cons a b => rfl
      refine ⟨⟨by simp, fun b hb => ?_, .inl (by rw [hg]; exact h6)⟩, ?_, fun _ => by rw [hg]; exact h6⟩
      · rcases List.mem_append.1 hb with hb | hb
        · exact h2 b hb
        · simp only [List.mem_singleton] at hb
          subst hb
          unfold Dig; rw [e]; omega
      · rw [dval_snoc, h4, e]; omega

theorem dval_take (l : List UInt8) (i : Nat) (h : i < l.length) : dval (l.take (i + 1)) = 10 * dval (l.take i) + ((l.getD i 0).toNat - 48) := by rw [take_at l i h, dval_snoc]
theorem getD_mem (l : List UInt8) (i : Nat) (h : i < l.length) : l.getD i 0 ∈ l := by
  rw [List.getD_eq_getElem?_getD, List.getElem?_eq_getElem h]
  exact List.getElem_mem h
theorem dval_take_lt (l : List UInt8) (i n : Nat) (h : ∀ b ∈ l.take i, Dig b) (hi : i ≤ n) : dval (l.take i) < 10 ^ n := by
  have h1 := dval_lt (l.take i) h
  have h2 : (l.take i).length ≤ n := by rw [List.length_take]; omega
  exact Nat.lt_of_lt_of_le h1 (Nat.pow_le_pow_right (by omega) h2)
theorem dig_step (l : List UInt8) (i : Nat) (h : i < l.length) (hd : ∀ b ∈ l.take i, Dig b) (h1 : Dig (l.getD i 0)) : ∀ b ∈ l.take (i + 1), Dig b := by
  rw [take_at l i h]
  intro b hb
  rcases List.mem_append.1 hb with hb | hb
  · exact hd b hb
  · simp only [List.mem_singleton] at hb; rw [hb]; exact h1
theorem dec_wrap (a : Nat) (b : UInt8) (ha : a < 10 ^ 9) (hb : Dig b) : wrap64 (wrap64 (10 * (a : Int)) + (((b.toNat : Int) - 48) % 256)) = ((10 * a + (b.toNat - 48) : Nat) : Int) := by
  unfold Dig at hb
  rw [wrap64_id (x := 10 * (a : Int)) (by omega) (by omega), wrap64_id (by omega) (by omega)]
  omega
theorem decimal_loop (s : ByteArray) (hs : s.size ≤ 9) : Tot (fun k => impl_decimal.l0 k s 0 0) (fun r => ((∀ b ∈ s.data.toList, Dig b) → r = ((dval s.data.toList : Int), true)) ∧ (r.2 = true → (∀ b ∈ s.data.toList, Dig b) ∧ r.1 = (dval s.data.toList : Int))) := by
  have hlen := bs_len s
  refine trec (σ := Nat) (fun i k => impl_decimal.l0 k s (dval (s.data.toList.take i) : Int) (i : Int)) (fun i => s.size - i) (fun i => i ≤ s.size ∧ ∀ b ∈ s.data.toList.take i, Dig b)
    (fun _ r => ((∀ b ∈ s.data.toList, Dig b) → r = ((dval s.data.toList : Int), true)) ∧ (r.2 = true → (∀ b ∈ s.data.toList, Dig b) ∧ r.1 = (dval s.data.toList : Int))) ?_ 0 ⟨Nat.zero_le _, by simp⟩
  rintro i ⟨h1, h2⟩ ih
  simp only [impl_decimal.l0]
  refine tite (fun c => ?_) (fun c => ?_)
  · have hi : i < s.size := by omega
    have hm := getD_mem s.data.toList i (by omega)
    refine tpos (by omega) ?_
    rw [bt_eq s i hi]
    refine tite (fun c2 => tsome ⟨fun h => absurd (h _ hm) (fun q => by unfold Dig at q; omega), fun h => by simp at h⟩) (fun c2 => ?_)
    refine tite (fun c3 => tsome ⟨fun h => absurd (h _ hm) (fun q => by unfold Dig at q; omega), fun h => by simp at h⟩) (fun c3 => ?_)
    have hd : Dig (s.data.toList.getD i 0) := by unfold Dig; omega
    rw [dec_wrap _ _ (dval_take_lt _ i 9 h2 (by omega)) hd, ← dval_take _ i (by omega), wrap64_id (by omega) (by omega)]
    exact ih (i + 1) ⟨by omega, dig_step _ i (by omega) h2 hd⟩ (by omega)
  · obtain rfl : i = s.size := by omega
    have e : s.data.toList.take s.size = s.data.toList := List.take_of_length_le (by omega)
    rw [e] at h2 ⊢
    exact tsome ⟨fun _ => rfl, fun _ => ⟨h2, rfl⟩⟩
theorem decimal_tot (s : ByteArray) (hs : s.size ≤ 1048576) : Tot (fun k => impl_decimal.f k s) (fun r => (Can s.data.toList ∧ s.size ≤ 9 → r = ((dval s.data.toList : Int), true)) ∧ (r.2 = true → Can s.data.toList ∧ s.size ≤ 9 ∧ r.1 = (dval s.data.toList : Int))) := by
  have hlen := bs_len s
  have hno : ¬ (Can s.data.toList ∧ s.size ≤ 9) → Tot (fun k => impl_decimal.j0 k s true) (fun r => (Can s.data.toList ∧ s.size ≤ 9 → r = ((dval s.data.toList : Int), true)) ∧ (r.2 = true → Can s.data.toList ∧ s.size ≤ 9 ∧ r.1 = (dval s.data.toList : Int))) := fun h => by
    refine tstep ?_
    simp only [impl_decimal.j0]
    exact tpos trivial (tsome ⟨fun g => absurd g h, fun g => by simp at g⟩)
  have hgo : s.size ≤ 9 → s.size ≠ 0 → (s.data.toList.getD 0 0 ≠ 48 ∨ s.size = 1) → Tot (fun k => impl_decimal.j0 k s false) (fun r => (Can s.data.toList ∧ s.size ≤ 9 → r = ((dval s.data.toList : Int), true)) ∧ (r.2 = true → Can s.data.toList ∧ s.size ≤ 9 ∧ r.1 = (dval s.data.toList : Int))) := fun h9 h0 h48 => by
    refine tstep ?_
    simp only [impl_decimal.j0]
    refine tneg (by simp) ?_
    refine tmono (decimal_loop s h9) (fun r hr => ⟨fun g => hr.1 g.1.2.1, fun g => ?_⟩)
    obtain ⟨g1, g2⟩ := hr.2 g
    exact ⟨⟨fun e => h0 (by rw [← hlen, e]; rfl), g1, by rw [hlen]; exact h48⟩, h9, g2⟩
  unfold impl_decimal.f
  rw [Go.ByteArray.toList_eq]
  refine tite (fun c => hno (fun h => h.1.1 c)) (fun c => ?_)
  have h0 : s.size ≠ 0 := fun e => c (List.eq_nil_of_length_eq_zero (by omega))
  refine tite (fun c2 => hno (fun h => by omega)) (fun c2 => ?_)
  refine tpos (by omega) ?_
  have hb := bt_eq s 0 (by omega)
  rw [show ((0 : Nat) : Int) = 0 from rfl] at hb
  rw [hb]
  refine tite (fun c3 => ?_) (fun c3 => hgo (by omega) h0 (.inl (fun e => c3 (by rw [e]; rfl))))
  by_cases h1 : (s.size : Int) > 1
  · rw [decide_eq_true h1]
    refine hno (fun h => ?_)
    rcases h.1.2.2 with h | h
    · exact h (UInt8.toNat_inj.1 (by have : (48 : UInt8).toNat = 48 := rfl; omega))
    · omega
  · rw [decide_eq_false h1]
    exact hgo (by omega) h0 (.inr (by omega))
theorem l1Read_loop (s : ByteArray) (hs : s.size ≤ 9) : Tot (fun k => spec_l1Read.l0 k s 0 0) (fun r => (∀ b ∈ s.data.toList, Dig b) → r = (dval s.data.toList : Int)) := by
  have hlen := bs_len s
  refine trec (σ := Nat) (fun i k => spec_l1Read.l0 k s (dval (s.data.toList.take i) : Int) (i : Int)) (fun i => s.size - i) (fun i => i ≤ s.size ∧ ∀ b ∈ s.data.toList.take i, Dig b)
    (fun _ r => (∀ b ∈ s.data.toList, Dig b) → r = (dval s.data.toList : Int)) ?_ 0 ⟨Nat.zero_le _, by simp⟩
  rintro i ⟨h1, h2⟩ ih
  simp only [spec_l1Read.l0]
  refine tite (fun c => ?_) (fun c => ?_)
  · have hi : i < s.size := by omega
    have hm := getD_mem s.data.toList i (by omega)
    refine tpos (by omega) ?_
    rw [bt_eq s i hi]
    refine tite (fun c2 => tsome (fun h => absurd (h _ hm) (fun q => by unfold Dig at q; omega))) (fun c2 => ?_)
    refine tite (fun c3 => tsome (fun h => absurd (h _ hm) (fun q => by unfold Dig at q; omega))) (fun c3 => ?_)
    have hd : Dig (s.data.toList.getD i 0) := by unfold Dig; omega
    rw [dec_wrap _ _ (dval_take_lt _ i 9 h2 (by omega)) hd, ← dval_take _ i (by omega), wrap64_id (by omega) (by omega)]
    exact ih (i + 1) ⟨by omega, dig_step _ i (by omega) h2 hd⟩ (by omega)
  · obtain rfl : i = s.size := by omega
    have e : s.data.toList.take s.size = s.data.toList := List.take_of_length_le (by omega)
    rw [e] at h2 ⊢
    exact tsome (fun _ => rfl)
theorem l1Read_tot (s : ByteArray) (hs : s.size ≤ 1048576) : Tot (fun k => spec_l1Read.f k s) (fun r => Can s.data.toList ∧ s.size ≤ 6 → r = (dval s.data.toList : Int)) := by
  have hlen := bs_len s
  have hno : ¬ (Can s.data.toList ∧ s.size ≤ 6) → Tot (fun k => spec_l1Read.j0 k s true) (fun r => Can s.data.toList ∧ s.size ≤ 6 → r = (dval s.data.toList : Int)) := fun h => by
    refine tstep ?_
    simp only [spec_l1Read.j0]
    exact tpos trivial (tsome (fun g => absurd g h))
  have hgo : s.size ≤ 6 → Tot (fun k => spec_l1Read.j0 k s false) (fun r => Can s.data.toList ∧ s.size ≤ 6 → r = (dval s.data.toList : Int)) := fun h9 => by
    refine tstep ?_
    simp only [spec_l1Read.j0]
    exact tneg (by simp) (tmono (l1Read_loop s (by omega)) (fun r hr g => hr g.1.2.1))
  unfold spec_l1Read.f
  rw [l1In_eq]
  simp only [Option.bind_some, decide_eq_true_eq]
  refine tite (fun c => ?_) (fun c => hno (fun h => c ⟨?_, by omega⟩))
  · refine tpos (by omega) ?_
    have hb := bt_eq s 0 (by omega)
    rw [show ((0 : Nat) : Int) = 0 from rfl] at hb
    rw [hb]
    refine tite (fun c3 => ?_) (fun c3 => hgo (by omega))
    by_cases h1 : (s.size : Int) > 1
    · rw [decide_eq_true h1]
      refine hno (fun h => ?_)
      rcases h.1.2.2 with h | h
      · exact h (UInt8.toNat_inj.1 (by have : (48 : UInt8).toNat = 48 := rfl; omega))
      · omega
    · rw [decide_eq_false h1]
      exact hgo (by omega)
  · have : s.data.toList ≠ [] := h.1.1
    have : s.data.toList.length ≠ 0 := fun e => this (List.eq_nil_of_length_eq_zero e)
    omega
theorem decText_bytes (n : Nat) : (decText n).data.toList = Lib.decDigits n := rfl
theorem decText_can (n : Nat) : Can (decText n).data.toList ∧ dval (decText n).data.toList = n := ⟨(dec_can n).1, (dec_can n).2.1⟩
theorem can_decText (s : ByteArray) (h : Can s.data.toList) : decText (dval s.data.toList) = s := bs_ext (by rw [decText_bytes]; exact can_dec _ h)
def NS (b : UInt8) : Prop := b ≠ 32 ∧ b ≠ 42 ∧ b ≠ 47 ∧ b ≠ 10
theorem dig_ns (b : UInt8) (h : Dig b) : NS b := by
  unfold Dig at h
  refine ⟨?_, ?_, ?_, ?_⟩ <;> (rintro rfl; revert h; decide)
theorem decText_ns (n : Nat) : ∀ b ∈ (decText n).data.toList, NS b := fun b hb => dig_ns b ((decText_can n).1.2.1 b hb)
instance (b : UInt8) : Decidable (NS b) := by unfold NS; exact inferInstance
theorem noteName_ns (i : Int) (h0 : 0 ≤ i) (h1 : i < 12) : ∀ b ∈ (rdOf ByteArray.empty noteNames i).data.toList, NS b := by
  obtain rfl | rfl | rfl | rfl | rfl | rfl | rfl | rfl | rfl | rfl | rfl | rfl : i = 0 ∨ i = 1 ∨ i = 2 ∨ i = 3 ∨ i = 4 ∨ i = 5 ∨ i = 6 ∨ i = 7 ∨ i = 8 ∨ i = 9 ∨ i = 10 ∨ i = 11 := by omega
  all_goals decide
theorem noteName_inj : ∀ i j : Fin 12, (rdOf ByteArray.empty noteNames (i.val : Int)).data.toList = (rdOf ByteArray.empty noteNames (j.val : Int)).data.toList → i = j := by decide
theorem pitchText_bytes (p : Int) : (pitchText p).data.toList = (rdOf ByteArray.empty noteNames (p % 12)).data.toList ++ (decText (p / 12).toNat).data.toList := by unfold pitchText; simp
theorem pitchText_ns (p : Int) (h0 : 24 ≤ p) (h1 : p ≤ 96) : ∀ b ∈ (pitchText p).data.toList, NS b := by
  rw [pitchText_bytes]
  intro b hb
  rcases List.mem_append.1 hb with hb | hb
  · exact noteName_ns (p % 12) (by omega) (by omega) b hb
  · exact decText_ns _ b hb
theorem decText_one (u : Nat) (h : u < 10) : (decText u).data.toList = [UInt8.ofNat (48 + u)] := by rw [decText_bytes]; unfold Lib.decDigits; rw [dif_pos h]
theorem pitchText_inj (p q : Int) (h0 : 24 ≤ p) (h1 : p ≤ 96) (h2 : 24 ≤ q) (h3 : q ≤ 96) (h : (pitchText p).data.toList = (pitchText q).data.toList) : p = q := by
  rw [pitchText_bytes, pitchText_bytes, decText_one (p / 12).toNat (by omega), decText_one (q / 12).toNat (by omega)] at h
  obtain ⟨e1, e2⟩ := List.append_inj' h rfl
  have e3 := noteName_inj ⟨(p % 12).toNat, by omega⟩ ⟨(q % 12).toNat, by omega⟩ (by
    show (rdOf ByteArray.empty noteNames (((p % 12).toNat : Nat) : Int)).data.toList = (rdOf ByteArray.empty noteNames (((q % 12).toNat : Nat) : Int)).data.toList
    rw [show (((p % 12).toNat : Nat) : Int) = p % 12 by omega, show (((q % 12).toNat : Nat) : Int) = q % 12 by omega]; exact e1)
  have e4 : (p % 12).toNat = (q % 12).toNat := congrArg Fin.val e3
  simp only [List.cons.injEq, and_true] at e2
  have e5 := congrArg UInt8.toNat e2
  simp at e5
  omega
theorem pitchText_long (p : Int) (h0 : 24 ≤ p) (h1 : p ≤ 96) : 2 ≤ (pitchText p).data.toList.length := by
  rw [pitchText_bytes, List.length_append, bs_len, bs_len]
  have := (noteName_size (p % 12) (by omega) (by omega)).2
  have := (decText_size (p / 12).toNat (by omega)).2
  omega
def fpf (w : List UInt8) : Nat → Int → Option Int
  | 0, _ => none
  | n + 1, p => if (pitchText p).data.toList = w then some p else fpf w n (p + 1)
theorem fpf_some (w : List UInt8) : ∀ (n : Nat) (p q : Int), fpf w n p = some q → p ≤ q ∧ q < p + n ∧ (pitchText q).data.toList = w
  | 0, p, q, h => by simp [fpf] at h
  | n + 1, p, q, h => by
    unfold fpf at h
    split at h
    · rename_i c
      obtain rfl := Option.some.inj h
      exact ⟨Int.le_refl _, by omega, c⟩
    · have := fpf_some w n (p + 1) q h
      exact ⟨by omega, by omega, this.2.2⟩
theorem fpf_hit (q : Int) : ∀ (n : Nat) (p : Int), p ≤ q → q < p + n → 24 ≤ p → p + n ≤ 97 → fpf (pitchText q).data.toList n p = some q
  | 0, p, h1, h2, h3, h4 => by omega
  | n + 1, p, h1, h2, h3, h4 => by
    unfold fpf
    by_cases c : (pitchText p).data.toList = (pitchText q).data.toList
    · rw [if_pos c, pitchText_inj p q (by omega) (by omega) (by omega) (by omega) c]
    · rw [if_neg c]
      have : p ≠ q := fun e => c (by rw [e])
      exact fpf_hit q n (p + 1) (by omega) (by omega) (by omega) (by omega)
theorem ntRead_loop (s : ByteArray) : ∀ (n : Nat) (p : Int), p + n = 97 → 24 ≤ p → Tot (fun k => spec_ntRead.l0 k s p) (fun r => r = (fpf s.data.toList n p).getD (-1))
  | 0, p, h, h0 => by
    refine tstep ?_
    simp only [spec_ntRead.l0]
    exact tneg (by omega) (tsome rfl)
  | n + 1, p, h, h0 => by
    refine tstep ?_
    simp only [spec_ntRead.l0]
    refine tpos (by omega) ?_
    refine tbind (ntName_tot p (by omega) (by omega)) (fun _ e => ?_); subst e
    rw [Go.ByteArray.toList_eq, Go.ByteArray.toList_eq, wrap64_id (by omega) (by omega)]
    unfold fpf
    refine tite (fun c => tsome (by rw [if_pos c]; rfl)) (fun c => ?_)
    rw [if_neg c]
    exact ntRead_loop s n (p + 1) (by omega) (by omega)
theorem ntRead_tot (s : ByteArray) : Tot (fun k => spec_ntRead.f k s) (fun r => r = (fpf s.data.toList 73 24).getD (-1)) := ntRead_loop s 73 24 (by omega) (by omega)
theorem pitchNamed_loop (s : ByteArray) : ∀ (n : Nat) (p : Int), p + n = 97 → 24 ≤ p → Tot (fun k => impl_pitchNamed.l0 k s p) (fun r => r = (fpf s.data.toList n p).getD 0)
  | 0, p, h, h0 => by
    refine tstep ?_
    simp only [impl_pitchNamed.l0]
    exact tneg (by omega) (tsome rfl)
  | n + 1, p, h, h0 => by
    refine tstep ?_
    simp only [impl_pitchNamed.l0]
    refine tpos (by omega) ?_
    rw [pitchName_eq p (by omega) (by omega)]
    simp only [Option.bind_some]
    rw [Go.ByteArray.toList_eq, Go.ByteArray.toList_eq, wrap64_id (by omega) (by omega)]
    unfold fpf
    refine tite (fun c => tsome (by rw [if_pos c]; rfl)) (fun c => ?_)
    rw [if_neg c]
    exact pitchNamed_loop s n (p + 1) (by omega) (by omega)
theorem pitchNamed_tot (s : ByteArray) : Tot (fun k => impl_pitchNamed.f k s) (fun r => r = (fpf s.data.toList 73 24).getD 0) := pitchNamed_loop s 73 24 (by omega) (by omega)
theorem cut_hit (c : UInt8) (x r : List UInt8) (h : c ∉ x) : Lib.cut (x ++ c :: r) [c] = (x, r, true) := by
  unfold Lib.cut
  rw [index_hit1 c x r h, if_pos (by omega)]
  simp
theorem cut_true (c : UInt8) (l : List UInt8) (h : (Lib.cut l [c]).2.2 = true) : c ∉ (Lib.cut l [c]).1 ∧ l = (Lib.cut l [c]).1 ++ c :: (Lib.cut l [c]).2.1 := by
  rcases find_c c l with h1 | ⟨x, r, h1, rfl⟩
  · unfold Lib.cut at h
    rw [index_none1 c l h1, if_neg (by omega)] at h
    cases h
  · rw [cut_hit c x r h1]
    exact ⟨h1, rfl⟩

theorem nameText_ns (a : Int) (h : a = 0 ∨ (24 ≤ a ∧ a ≤ 96)) : ∀ b ∈ (nameText a).data.toList, NS b := by
  unfold nameText
  split
  · decide
  · exact pitchText_ns a (by omega) (by omega)
theorem slot_bytes (e : S72) : (slotText e).data.toList = (nameText e.f0).data.toList ++ 42 :: ((decText e.f1.toNat).data.toList ++ 47 :: (decText e.f2.toNat).data.toList) := by
  unfold slotText
  simp
theorem ns_no (c : UInt8) (hc : ¬ NS c) (l : List UInt8) (h : ∀ b ∈ l, NS b) : c ∉ l := fun hm => hc (h c hm)
theorem rest_no (a b : Nat) : (42 : UInt8) ∉ (decText a).data.toList ++ 47 :: (decText b).data.toList := by
  intro hm
  rcases List.mem_append.1 hm with hm | hm
  · exact ns_no 42 (by decide) _ (decText_ns a) hm
  · rcases List.mem_cons.1 hm with hm | hm
    · exact absurd hm (by decide)
    · exact ns_no 42 (by decide) _ (decText_ns b) hm
theorem slot_blank (e : S72) (h : OkEvent e.f0 e.f1 e.f2) : (32 : UInt8) ∉ (slotText e).data.toList := by
  rw [slot_bytes]
  intro hm
  rcases List.mem_append.1 hm with hm | hm
  · exact ns_no 32 (by decide) _ (nameText_ns _ h.1) hm
  · rcases List.mem_cons.1 hm with hm | hm
    · exact absurd hm (by decide)
    · rcases List.mem_append.1 hm with hm | hm
      · exact ns_no 32 (by decide) _ (decText_ns _) hm
      · rcases List.mem_cons.1 hm with hm | hm
        · exact absurd hm (by decide)
        · exact ns_no 32 (by decide) _ (decText_ns _) hm
theorem two_of {r : List ByteArray} {x y : List UInt8} (h : r.map (·.data.toList) = [x, y]) : r.length = 2 ∧ (rdOf ByteArray.empty r 0).data.toList = x ∧ (rdOf ByteArray.empty r 1).data.toList = y := by
  match r, h with
  | [a, b], h => simp only [List.map_cons, List.map_nil, List.cons.injEq, and_true] at h; exact ⟨rfl, h.1, h.2⟩
theorem rd_mem_size {r : List ByteArray} {c : UInt8} {l : List UInt8} (h : r.map (·.data.toList) = sp c l) (i : Int) : (rdOf ByteArray.empty r i).size ≤ l.length := by
  have key : ∀ w ∈ sp c l, w.length ≤ l.length := by
    clear h
    induction l with
    | nil => simp [sp]
    | cons b l ih =>
      obtain ⟨x, t, e⟩ := sp_cons c l
      unfold sp
      rw [e] at ih ⊢
      split
      · intro w hw
        rcases List.mem_cons.1 hw with rfl | hw
        · simp
        · have := ih w hw; simp; omega
      · intro w hw
        simp only [List.headD_cons, List.tail_cons] at hw
        rcases List.mem_cons.1 hw with rfl | hw
        · have := ih x (by simp); simp; omega
        · have := ih w (List.mem_cons_of_mem _ hw); simp; omega
  unfold rdOf
  rw [List.getD_eq_getElem?_getD]
  cases hh : r[i.toNat]? with
  | none => exact Nat.zero_le _
  | some a =>
    have : a.data.toList ∈ sp c l := by rw [← h]; exact List.mem_map_of_mem (List.mem_of_getElem? hh)
    have := key _ this
    rw [bs_len] at this
    exact this
theorem okEvent_sizes (a b c : Int) (h : OkEvent a b c) : (decText b.toNat).size ≤ 6 ∧ (decText c.toNat).size ≤ 6 := by
  obtain ⟨_, h2, h3, _⟩ := h
  have key : ∀ n : Nat, n < 100 → (decText n).size ≤ 6 := by
    intro n hn
    by_cases h : n < 10
    · rw [← bs_len, decText_one n h]; simp
    · rw [← bs_len, decText_bytes]
      unfold Lib.decDigits
      rw [dif_neg h]
      unfold Lib.decDigits
      rw [dif_pos (by omega)]
      simp
  exact ⟨key _ (by omega), key _ (by omega)⟩
theorem noRead_hit (w : ByteArray) (hw : w.size ≤ 1048576) (e : S72) (h : OkEvent e.f0 e.f1 e.f2) (hs : w.data.toList = (slotText e).data.toList) : Tot (fun k => spec_noRead.f k w) (fun r => r = (e.f0, e.f1, e.f2, true)) := by
  obtain ⟨k1, k2⟩ := okEvent_sizes _ _ _ h
  unfold spec_noRead.f
  refine tbind (l1Split_tot w 42 hw) (fun t1 e1 => ?_)
  rw [hs, slot_bytes, sp_hit 42 _ _ (ns_no 42 (by decide) _ (nameText_ns _ h.1)), sp_none 42 _ (rest_no _ _)] at e1
  obtain ⟨a1, a2, a3⟩ := two_of e1
  have hlen := bs_len w
  have hz : (rdOf ByteArray.empty t1 1).size ≤ 1048576 := by
    have q := congrArg List.length a3
    rw [bs_len] at q
    have q2 := congrArg List.length hs
    rw [slot_bytes, hlen, List.length_append, List.length_cons] at q2
    omega
  refine tpos (by omega) (tpos (by omega) ?_)
  refine tbind (l1Split_tot (rdOf ByteArray.empty t1 1) 47 hz) (fun t2 e2 => ?_)
  rw [a3, sp_hit 47 _ _ (ns_no 47 (by decide) _ (decText_ns _)), sp_none 47 _ (ns_no 47 (by decide) _ (decText_ns _))] at e2
  obtain ⟨b1, b2, b3⟩ := two_of e2
  have z0 : (rdOf ByteArray.empty t2 0).size ≤ 6 := by have q := congrArg List.length b2; rw [bs_len, bs_len] at q; omega
  have z1 : (rdOf ByteArray.empty t2 1).size ≤ 6 := by have q := congrArg List.length b3; rw [bs_len, bs_len] at q; omega
  refine tpos (by omega) (tpos (by omega) ?_)
  refine tbind (l1Read_tot (rdOf ByteArray.empty t2 0) (by omega)) (fun n1 g1 => ?_)
  refine tpos (by omega) ?_
  refine tbind (l1Read_tot (rdOf ByteArray.empty t2 1) (by omega)) (fun n2 g2 => ?_)
  obtain ⟨h1, h2, h3, h4⟩ := h
  have f1 : n1 = e.f1 := by rw [g1 ⟨by rw [b2]; exact (decText_can _).1, z0⟩, b2, (decText_can _).2]; omega
  have f2 : n2 = e.f2 := by rw [g2 ⟨by rw [b3]; exact (decText_can _).1, z1⟩, b3, (decText_can _).2]; omega
  subst f1 f2
  have hok : OkEvent e.f0 e.f1 e.f2 := ⟨h1, h2, h3, h4⟩
  refine tpos (by omega) ?_
  rw [Go.ByteArray.toList_eq, a2]
  refine tite (fun c => ?_) (fun c => ?_)
  · have e0 : e.f0 = 0 := by
      rcases h1 with h1 | h1
      · exact h1
      · unfold nameText at c
        rw [if_neg (by omega)] at c
        have := pitchText_long e.f0 h1.1 h1.2
        rw [c] at this
        simp at this
    have := noEvent_tot 0 e.f1 e.f2
    refine tbind this (fun b hb => tsome ?_)
    rw [e0] at hok ⊢
    rw [hb.2 hok]
  · have e0 : 24 ≤ e.f0 ∧ e.f0 ≤ 96 := by
      rcases h1 with h1 | h1
      · exact absurd (by unfold nameText; rw [if_pos h1]) c
      · exact h1
    refine tbind (ntRead_tot _) (fun p hp => ?_)
    rw [a2] at hp
    unfold nameText at hp
    rw [if_neg (by omega), fpf_hit e.f0 73 24 e0.1 (by omega) (by omega) (by omega)] at hp
    simp only [Option.getD_some] at hp
    subst hp
    exact tbind (noEvent_tot e.f0 e.f1 e.f2) (fun b hb => tsome (by rw [hb.2 hok]))
theorem noRead_ok (w : ByteArray) (hw : w.size ≤ 1048576) : Tot (fun k => spec_noRead.f k w) (fun r => r.2.2.2 = true → OkEvent r.1 r.2.1 r.2.2.1) := by
  have hlen := bs_len w
  unfold spec_noRead.f
  refine tbind (l1Split_tot w 42 hw) (fun t1 e1 => ?_)
  refine tite (fun c => ?_) (fun c => tsome (fun h => by simp at h))
  refine tpos (by omega) ?_
  have z := rd_mem_size e1 1
  have hlen1 := bs_len (rdOf ByteArray.empty t1 1)
  refine tbind (l1Split_tot (rdOf ByteArray.empty t1 1) 47 (by omega)) (fun t2 e2 => ?_)
  refine tite (fun c => ?_) (fun c => tsome (fun h => by simp at h))
  have z0 := rd_mem_size e2 0
  have z1 := rd_mem_size e2 1
  refine tpos (by omega) ?_
  refine tbind (l1Read_tot (rdOf ByteArray.empty t2 0) (by omega)) (fun n1 g1 => ?_)
  refine tpos (by omega) ?_
  refine tbind (l1Read_tot (rdOf ByteArray.empty t2 1) (by omega)) (fun n2 g2 => ?_)
  refine tpos (by omega) ?_
  refine tite (fun c => ?_) (fun c => ?_)
  · exact tbind (noEvent_tot 0 n1 n2) (fun b hb => tsome (fun h => hb.1 h))
  · refine tbind (ntRead_tot _) (fun p hp => ?_)
    exact tbind (noEvent_tot p n1 n2) (fun b hb => tsome (fun h => hb.1 h))

def slB (e : S72) : List UInt8 := (slotText e).data.toList
def OkE (e : S72) : Prop := OkEvent e.f0 e.f1 e.f2
theorem rd_ev (l : List S72) (i : Nat) (h : i < l.length) : rd_T72 l (i : Int) = l[i] := by
  unfold rd_T72
  rw [List.getD_eq_getElem?_getD]
  simp [h]
theorem take_ev (l : List S72) (i : Nat) (h : i < l.length) : l.take (i + 1) = l.take i ++ [rd_T72 l (i : Int)] := by
  rw [rd_ev l i h, List.take_add_one, List.getElem?_eq_getElem h]
  rfl
theorem voGood_iff (l : List S72) : VoGood l ↔ (∀ e ∈ l, OkE e) ∧ l.length ≤ 20 := by
  unfold VoGood
  refine ⟨fun h => ⟨fun e he => ?_, by omega⟩, fun h => ⟨fun j h0 h1 => ?_, by omega⟩⟩
  · obtain ⟨i, hi, rfl⟩ := List.getElem_of_mem he
    have := h.1 (i : Int) (by omega) (by omega)
    unfold VoC at this
    rw [rd_ev l i hi] at this
    exact this
  · obtain ⟨i, rfl⟩ := Int.eq_ofNat_of_zero_le h0
    unfold VoC
    have hi : i < l.length := by omega
    rw [rd_ev l i hi]
    exact h.1 _ (List.getElem_mem hi)
theorem evUpto_take (l : List S72) (i : Nat) (h : i ≤ l.length) : evUpto l i = (l.take i).map slotText := by
  induction i with
  | zero => rfl
  | succ i ih => rw [evUpto, ih (by omega), take_ev l i (by omega), List.map_append]; rfl
theorem vo_join (l : List S72) : (voUpto l l.length).data.toList = Lib.join (l.map slB) [32] := by
  rw [← ev_join, evUpto_take l l.length (Nat.le_refl _), List.take_length, List.map_map]
  rfl
theorem sp_vo (l : List S72) (hg : VoGood l) (h0 : l ≠ []) : sp 32 (voUpto l l.length).data.toList = l.map slB := by
  rw [vo_join]
  refine sp_of_join 32 _ (by simpa using h0) (fun w hw => ?_)
  obtain ⟨e, he, rfl⟩ := List.mem_map.1 hw
  exact slot_blank e (((voGood_iff l).1 hg).1 e he)
theorem map_rd (t : List ByteArray) (l : List (List UInt8)) (h : t.map (·.data.toList) = l) (i : Nat) (hi : i < t.length) : (rdOf ByteArray.empty t (i : Int)).data.toList = l.getD i [] := by
  subst h
  unfold rdOf
  rw [List.getD_eq_getElem?_getD, List.getD_eq_getElem?_getD, List.getElem?_map]
  simp [hi]
theorem slB_rd (l : List S72) (i : Nat) (hi : i < l.length) : (l.map slB).getD i [] = (slotText (rd_T72 l (i : Int))).data.toList := by
  rw [List.getD_eq_getElem?_getD, List.getElem?_map, List.getElem?_eq_getElem hi, rd_ev l i hi]
  rfl
theorem specPV_hit (s : ByteArray) (hs : s.size ≤ 1048576) (l : List S72) (hg : VoGood l) (he : (voUpto l l.length).data.toList = s.data.toList) : Tot (fun k => spec_ParseVoice.f k s) (fun r => r = (l, true)) := by
  have hlen := bs_len s
  have hn := hg.2
  unfold spec_ParseVoice.f
  rw [Go.ByteArray.toList_eq]
  by_cases h0 : l = []
  · subst h0
    exact tpos he.symm (tsome rfl)
  · have hne : s.data.toList ≠ [] := by
      intro hc
      have h1 := sp_vo l hg h0
      rw [he, hc] at h1
      cases l with
      | nil => exact h0 rfl
      | cons e r =>
        simp only [sp, List.map_cons, List.cons.injEq] at h1
        have h2 := h1.1
        unfold slB at h2
        rw [slot_bytes] at h2
        simp at h2
    refine tneg hne ?_
    refine tbind (l1Split_tot s 32 hs) (fun t ht => ?_)
    rw [← he, sp_vo l hg h0] at ht
    have hl : t.length = l.length := by have := congrArg List.length ht; simpa using this
    refine tneg (by omega) ?_
    refine trec (σ := Nat) (fun i k => spec_ParseVoice.l0 k s (l.take i) t (t.length : Int) (i : Int)) (fun i => l.length - i) (fun i => i ≤ l.length) (fun _ r => r = (l, true)) ?_ 0 (Nat.zero_le _)
    intro i hi ih
    simp only [spec_ParseVoice.l0]
    refine tite (fun c => ?_) (fun c => ?_)
    · have hi2 : i < l.length := by omega
      have hw := map_rd t _ ht i (by omega)
      rw [slB_rd l i hi2] at hw
      have hok : OkEvent (rd_T72 l i).f0 (rd_T72 l i).f1 (rd_T72 l i).f2 := hg.1 i (by omega) (by omega)
      have hz := slotText_size _ hok
      have hz2 := congrArg List.length hw
      rw [bs_len, bs_len] at hz2
      refine tpos (by omega) (tpos c ?_)
      refine tbind (noRead_hit _ (by omega) _ hok hw) (fun _ e => ?_); subst e
      refine tpos rfl (tpos (by rw [List.length_take]; omega) ?_)
      rw [wrap64_id (by omega) (by omega)]
      have := ih (i + 1) (by omega) (by omega)
      rw [take_ev l i hi2] at this
      exact this
    · obtain rfl : i = l.length := by omega
      rw [List.take_length]
      refine tbind (noText_tot l hg) (fun _ e => ?_); subst e
      rw [Go.ByteArray.toList_eq, Go.ByteArray.toList_eq]
      exact tpos he (tsome rfl)
theorem specPV_miss (s : ByteArray) (hs : s.size ≤ 1048576) (hno : ∀ l : List S72, VoGood l → (voUpto l l.length).data.toList ≠ s.data.toList) : Tot (fun k => spec_ParseVoice.f k s) (fun r => r = ([], false)) := by
  have hlen := bs_len s
  unfold spec_ParseVoice.f
  rw [Go.ByteArray.toList_eq]
  refine tneg (fun hc => hno [] ((voGood_iff []).2 ⟨by simp, by simp⟩) hc.symm) ?_
  refine tbind (l1Split_tot s 32 hs) (fun t ht => ?_)
  refine tite (fun c => tsome rfl) (fun c20 => ?_)
  refine trec (σ := List S72 × Nat) (fun q k => spec_ParseVoice.l0 k s q.1 t (t.length : Int) (q.2 : Int)) (fun q => t.length - q.2) (fun q => q.2 ≤ t.length ∧ q.1.length = q.2 ∧ ∀ e ∈ q.1, OkE e) (fun _ r => r = ([], false)) ?_ ([], 0) ⟨Nat.zero_le _, rfl, by simp⟩
  rintro ⟨acc, i⟩ ⟨h1, h2, h3⟩ ih
  dsimp only at h1 h2 h3 ⊢
  simp only [spec_ParseVoice.l0]
  refine tite (fun c => ?_) (fun c => ?_)
  · have z := rd_mem_size ht (i : Int)
    refine tpos (by omega) (tpos c ?_)
    refine tbind (noRead_ok _ (by omega)) (fun r hr => ?_)
    refine tite (fun c2 => ?_) (fun c2 => tsome rfl)
    refine tpos (by omega) ?_
    rw [wrap64_id (by omega) (by omega)]
    have := ih (acc ++ [⟨r.1, r.2.1, r.2.2.1⟩], i + 1) ⟨by dsimp only; omega, by simp; omega, fun e he => ?_⟩ (by dsimp only; omega)
    · simpa using this
    · rcases List.mem_append.1 he with he | he
      · exact h3 e he
      · simp only [List.mem_singleton] at he
        subst he
        exact hr c2
  · have hg : VoGood acc := (voGood_iff acc).2 ⟨h3, by omega⟩
    refine tbind (noText_tot acc hg) (fun _ e => ?_); subst e
    rw [Go.ByteArray.toList_eq, Go.ByteArray.toList_eq]
    exact tneg (hno acc hg) (tsome rfl)
theorem toArr (l : List UInt8) : (⟨l.toArray⟩ : ByteArray).data.toList = l := rfl
theorem toArr_size (l : List UInt8) : (⟨l.toArray⟩ : ByteArray).size = l.length := by rw [← bs_len]
theorem cut_eq (a : ByteArray) (c : UInt8) (h : a.size ≤ 1048576) : strings_Cut.f a ⟨#[c]⟩ = some (⟨(Lib.cut a.data.toList [c]).1.toArray⟩, ⟨(Lib.cut a.data.toList [c]).2.1.toArray⟩, (Lib.cut a.data.toList [c]).2.2) := by
  unfold strings_Cut.f
  rw [if_pos (by omega)]
theorem cut_len (l : List UInt8) (c : UInt8) : (Lib.cut l [c]).1.length ≤ l.length ∧ (Lib.cut l [c]).2.1.length ≤ l.length := by
  rcases find_c c l with h | ⟨x, r, h, rfl⟩
  · unfold Lib.cut
    rw [index_none1 c l h, if_neg (by omega)]
    simp
  · rw [cut_hit c x r h]
    simp
    omega
theorem implPV_hit (s : ByteArray) (hs : s.size ≤ 1048576) (l : List S72) (hg : VoGood l) (he : (voUpto l l.length).data.toList = s.data.toList) : Tot (fun k => impl_ParseVoice.f k s) (fun r => r = (l, true)) := by
  have hlen := bs_len s
  have hn := hg.2
  unfold impl_ParseVoice.f
  rw [Go.ByteArray.toList_eq]
  by_cases h0 : l = []
  · subst h0
    exact tpos he.symm (tsome rfl)
  · have hne : s.data.toList ≠ [] := by
      intro hc
      have h1 := sp_vo l hg h0
      rw [he, hc] at h1
      cases l with
      | nil => exact h0 rfl
      | cons e r =>
        simp only [sp, List.map_cons, List.cons.injEq] at h1
        have h2 := h1.1
        unfold slB at h2
        rw [slot_bytes] at h2
        simp at h2
    refine tneg hne ?_
    obtain ⟨t, hts, ht⟩ := split_eq s 32 hs
    rw [hts]
    simp only [Option.bind_some]
    rw [← he, sp_vo l hg h0] at ht
    have hl : t.length = l.length := by have := congrArg List.length ht; simpa using this
    refine tneg (by omega) ?_
    refine trec (σ := Nat) (fun i k => impl_ParseVoice.l0 k (l.take i) t (t.length : Int) (i : Int)) (fun i => l.length - i) (fun i => i ≤ l.length) (fun _ r => r = (l, true)) ?_ 0 (Nat.zero_le _)
    intro i hi ih
    simp only [impl_ParseVoice.l0]
    refine tite (fun c => ?_) (fun c => ?_)
    · have hi2 : i < l.length := by omega
      have hw := map_rd t _ ht i (by omega)
      rw [slB_rd l i hi2] at hw
      have hok : OkEvent (rd_T72 l i).f0 (rd_T72 l i).f1 (rd_T72 l i).f2 := hg.1 i (by omega) (by omega)
      have hz := slotText_size _ hok
      have hz2 := congrArg List.length hw
      rw [bs_len, bs_len] at hz2
      have hc1 : Lib.cut (rdOf ByteArray.empty t (i : Int)).data.toList [42] = ((nameText (rd_T72 l i).f0).data.toList, (decText (rd_T72 l i).f1.toNat).data.toList ++ 47 :: (decText (rd_T72 l i).f2.toNat).data.toList, true) := by
        rw [hw, slot_bytes, cut_hit 42 _ _ (ns_no 42 (by decide) _ (nameText_ns _ hok.1))]
      have hc2 : Lib.cut ((decText (rd_T72 l i).f1.toNat).data.toList ++ 47 :: (decText (rd_T72 l i).f2.toNat).data.toList) [47] = ((decText (rd_T72 l i).f1.toNat).data.toList, (decText (rd_T72 l i).f2.toNat).data.toList, true) := cut_hit 47 _ _ (ns_no 47 (by decide) _ (decText_ns _))
      obtain ⟨k1, k2⟩ := okEvent_sizes _ _ _ hok
      refine tpos (by omega) (tpos c ?_)
      rw [cut_eq _ 42 (by omega), hc1]
      simp only [Option.bind_some]
      rw [cut_eq _ 47 (by rw [toArr_size, List.length_append, List.length_cons, bs_len, bs_len]; omega), toArr, hc2]
      simp only [Option.bind_some]
      refine tbind (decimal_tot _ (by rw [toArr_size, bs_len]; omega)) (fun r1 g1 => ?_)
      refine tbind (decimal_tot _ (by rw [toArr_size, bs_len]; omega)) (fun r2 g2 => ?_)
      have f1 := g1.1 ⟨by rw [toArr]; exact (decText_can _).1, by rw [toArr_size, bs_len]; omega⟩
      have f2 := g2.1 ⟨by rw [toArr]; exact (decText_can _).1, by rw [toArr_size, bs_len]; omega⟩
      rw [toArr, (decText_can _).2] at f1 f2
      subst f1 f2
      refine tbind (pitchNamed_tot _) (fun p hp => ?_)
      rw [toArr] at hp
      have hp2 : p = (rd_T72 l i).f0 ∧ (p = 0 → (nameText (rd_T72 l i).f0).data.toList = [114]) := by
        rcases hok.1 with h1 | h1
        · have e1 : nameText (rd_T72 l i).f0 = (⟨#[114]⟩ : ByteArray) := by unfold nameText; rw [if_pos h1]
          refine ⟨?_, fun _ => by rw [e1]⟩
          rw [hp, e1, h1]
          cases hf : fpf (⟨#[114]⟩ : ByteArray).data.toList 73 24 with
          | none => rfl
          | some q =>
            obtain ⟨q1, q2, q3⟩ := fpf_some _ _ _ _ hf
            have := pitchText_long q q1 (by omega)
            rw [q3] at this
            exact absurd this (by decide)
        · have e1 : nameText (rd_T72 l i).f0 = pitchText (rd_T72 l i).f0 := by unfold nameText; rw [if_neg (by omega)]
          rw [e1, fpf_hit _ 73 24 h1.1 (by omega) (by omega) (by omega)] at hp
          simp only [Option.getD_some] at hp
          exact ⟨hp, fun e => by omega⟩
      obtain ⟨hp3, hp4⟩ := hp2
      refine tpos (by trivial) (tpos (by trivial) (tpos (by trivial) (tpos (by trivial) ?_)))
      have hgo : Tot (fun k => if (l.take i).length < 5864062014805 then impl_ParseVoice.l0 k (l.take i ++ [⟨p, (((rd_T72 l i).f1.toNat : Nat) : Int), (((rd_T72 l i).f2.toNat : Nat) : Int)⟩]) t (t.length : Int) (wrap64 ((i : Int) + 1)) else none) (fun r => r = (l, true)) := by
        refine tpos (by rw [List.length_take]; omega) ?_
        rw [wrap64_id (by omega) (by omega), hp3]
        obtain ⟨_, o2, o3, _⟩ := hok
        rw [show (((rd_T72 l i).f1.toNat : Nat) : Int) = (rd_T72 l i).f1 by omega, show (((rd_T72 l i).f2.toNat : Nat) : Int) = (rd_T72 l i).f2 by omega]
        have := ih (i + 1) (by omega) (by omega)
        rw [take_ev l i hi2] at this
        exact this
      refine tite (fun c3 => ?_) (fun c3 => hgo)
      rw [Go.ByteArray.toList_eq, toArr]
      exact tpos (hp4 c3) hgo
    · obtain rfl : i = l.length := by omega
      rw [List.take_length]
      refine tbind (voiceOf_tot l (by omega)) (fun r hr => ?_)
      rcases hr with ⟨_, rfl⟩ | ⟨h, _⟩
      · exact tsome rfl
      · exact absurd hg h
theorem implPV_miss (s : ByteArray) (hs : s.size ≤ 1048576) (hno : ∀ l : List S72, VoGood l → (voUpto l l.length).data.toList ≠ s.data.toList) : Tot (fun k => impl_ParseVoice.f k s) (fun r => r = ([], false)) := by
  have hlen := bs_len s
  unfold impl_ParseVoice.f
  rw [Go.ByteArray.toList_eq]
  refine tneg (fun hc => hno [] ((voGood_iff []).2 ⟨by simp, by simp⟩) hc.symm) ?_
  obtain ⟨t, hts, ht⟩ := split_eq s 32 hs
  rw [hts]
  simp only [Option.bind_some]
  refine tite (fun c => tsome rfl) (fun c20 => ?_)
  refine trec (σ := List S72 × Nat) (fun q k => impl_ParseVoice.l0 k q.1 t (t.length : Int) (q.2 : Int)) (fun q => t.length - q.2) (fun q => q.2 ≤ t.length ∧ q.1.length = q.2 ∧ q.1.map slB = (t.map (·.data.toList)).take q.2) (fun _ r => r = ([], false)) ?_ ([], 0) ⟨Nat.zero_le _, rfl, by simp⟩
  rintro ⟨acc, i⟩ ⟨h1, h2, h3⟩ ih
  dsimp only at h1 h2 h3 ⊢
  simp only [impl_ParseVoice.l0]
  refine tite (fun c => ?_) (fun c => ?_)
  · have hi : i < t.length := by omega
    have z := rd_mem_size ht (i : Int)
    have hw := map_rd t _ rfl i hi
    have hb := bs_len (rdOf ByteArray.empty t (i : Int))
    have z1 := cut_len (rdOf ByteArray.empty t (i : Int)).data.toList 42
    have z2 := cut_len (Lib.cut (rdOf ByteArray.empty t (i : Int)).data.toList [42]).2.1 47
    refine tpos (by omega) (tpos c ?_)
    rw [cut_eq _ 42 (by omega)]
    simp only [Option.bind_some]
    rw [cut_eq _ 47 (by rw [toArr_size]; omega), toArr]
    simp only [Option.bind_some]
    refine tbind (decimal_tot _ (by rw [toArr_size]; omega)) (fun r1 g1 => ?_)
    refine tbind (decimal_tot _ (by rw [toArr_size]; omega)) (fun r2 g2 => ?_)
    refine tbind (pitchNamed_tot _) (fun p hp => ?_)
    rw [toArr] at hp
    refine tite (fun k1 => ?_) (fun _ => tsome rfl)
    refine tite (fun k2 => ?_) (fun _ => tsome rfl)
    refine tite (fun k3 => ?_) (fun _ => tsome rfl)
    refine tite (fun k4 => ?_) (fun _ => tsome rfl)
    obtain ⟨n1, n2⟩ := cut_true 42 _ k1
    obtain ⟨n3, n4⟩ := cut_true 47 _ k2
    obtain ⟨d1, _, d2⟩ := g1.2 k3
    obtain ⟨d3, _, d4⟩ := g2.2 k4
    rw [toArr] at d1 d2 d3 d4
    have hgo : (nameText p).data.toList = (Lib.cut (rdOf ByteArray.empty t (i : Int)).data.toList [42]).1 → Tot (fun k => if acc.length < 5864062014805 then impl_ParseVoice.l0 k (acc ++ [⟨p, r1.1, r2.1⟩]) t (t.length : Int) (wrap64 ((i : Int) + 1)) else none) (fun r => r = ([], false)) := by
      intro hnm
      refine tpos (by omega) ?_
      rw [wrap64_id (by omega) (by omega)]
      have := ih (acc ++ [⟨p, r1.1, r2.1⟩], i + 1) ⟨by dsimp only; omega, by simp; omega, ?_⟩ (by dsimp only; omega)
      · simpa using this
      · dsimp only
        rw [List.map_append, h3, List.map_cons, List.map_nil, List.take_add_one, List.getElem?_eq_getElem (by simpa using hi)]
        congr 1
        simp only [Option.toList_some, List.cons.injEq, and_true]
        have e1 : slB ⟨p, r1.1, r2.1⟩ = (rdOf ByteArray.empty t (i : Int)).data.toList := by
          unfold slB
          rw [slot_bytes]
          dsimp only
          rw [hnm, d2, d4, Int.toNat_natCast, Int.toNat_natCast, decText_bytes, decText_bytes, can_dec _ d1, can_dec _ d3, ← n4, ← n2]
        rw [e1, hw, List.getD_eq_getElem?_getD, List.getElem?_eq_getElem (by simpa using hi)]
        rfl
    refine tite (fun c3 => ?_) (fun c3 => hgo ?_)
    · rw [Go.ByteArray.toList_eq, toArr]
      refine tite (fun c4 => hgo ?_) (fun _ => tsome rfl)
      unfold nameText
      rw [if_pos c3, c4]
    · cases hf : fpf (Lib.cut (rdOf ByteArray.empty t (i : Int)).data.toList [42]).1 73 24 with
      | none => rw [hf] at hp; exact absurd hp c3
      | some q =>
        rw [hf] at hp
        simp only [Option.getD_some] at hp
        obtain ⟨q1, q2, q3⟩ := fpf_some _ _ _ _ hf
        unfold nameText
        rw [if_neg c3, hp, q3]
  · obtain rfl : i = t.length := by omega
    rw [List.take_of_length_le (by simp)] at h3
    refine tbind (voiceOf_tot acc (by omega)) (fun r hr => ?_)
    rcases hr with ⟨hg, _⟩ | ⟨_, rfl⟩
    · exact absurd (by rw [vo_join, h3, ht, sp_join]) (hno acc hg)
    · exact tsome rfl
theorem parseVoice_agree (s : ByteArray) (hs : s.size ≤ 1048576) : ∃ r, Tot (fun k => spec_ParseVoice.f k s) (fun y => y = r) ∧ Tot (fun k => impl_ParseVoice.f k s) (fun y => y = r) ∧ r.1.length ≤ 1048576 := by
  by_cases h : ∃ l : List S72, VoGood l ∧ (voUpto l l.length).data.toList = s.data.toList
  · obtain ⟨l, hg, he⟩ := h
    exact ⟨(l, true), specPV_hit s hs l hg he, implPV_hit s hs l hg he, by have := hg.2; dsimp only; omega⟩
  · have hno : ∀ l : List S72, VoGood l → (voUpto l l.length).data.toList ≠ s.data.toList := fun l hg he => h ⟨l, hg, he⟩
    exact ⟨([], false), specPV_miss s hs hno, implPV_miss s hs hno, Nat.zero_le _⟩


theorem FnExactParseVoice (a0 : ByteArray) (w0 : a0.size ≤ 140737488351232) : ∃ k, laws_FnExactParseVoice.f k a0 = some true := by
  refine rounds ?_
  unfold laws_FnExactParseVoice.f
  by_cases hl0 : (a0.size : Int) > 1048576
  · simp only [if_pos hl0]; exact tsome rfl
  simp only [if_neg hl0]
  obtain ⟨r, hS, hI, hR⟩ := parseVoice_agree a0 (by omega)
  repeat first
    | exact tsome rfl
    | (refine tbind hS (fun _ e => ?_); subst e)
    | (refine tbind hI (fun _ e => ?_); subst e)
    | (refine tbind (eqEventS _ (by first | assumption | omega | (dsimp only; omega) | (simp; omega))) (fun _ e => ?_); subst e)
    | (refine tbind (markEventS _ 1 (by first | assumption | omega | (dsimp only; omega) | (simp; omega)) (by omega) (by omega)) (fun _ e => ?_); subst e)
    | (refine tbind (heldEventS 1 _ (by first | omega | (simp; omega)) (by omega) (by omega)) (fun _ e => ?_); subst e)
    | refine tpos rfl ?_
    | refine tneg (by dsimp only; omega) ?_
    | refine tneg (by omega) ?_
    | refine tneg (by simp; done) ?_
    | refine tpos (by dsimp only) ?_
    | (refine tstep ?_; simp only [laws_FnExactParseVoice.j0])
    | (refine tstep ?_; simp only [laws_FnExactParseVoice.j1])
end Go.Proofs.YtgeipgflhjakjaaDoor.Pure
