/- The plain side of the law FnExactStretchVoice: lists and numbers alone. -/
import Derived.Test.YtioagkpinneheaaPFnExactStretchVoicex4
import Derived.Test.YtioagkpinneheaaGlue
import Derived.Test.YtioagkpinneheaaTot
set_option linter.unusedVariables false
set_option linter.unusedSimpArgs false
namespace Go.Proofs.Ytioagkpinneheaa.Pure
open Go.RowKit Go.Proofs.Ytioagkpinneheaa.PFnExactStretchVoice Go.Proofs.YtioagkpinneheaaW.PrintWords Go.Proofs.YtioagkpinneheaaW.PrintMore Go.Proofs.Ytioagkpinneheaa.Tot

theorem l1In_eq (a b c : Int) : spec_l1In.f a b c = some (decide (b ≤ a ∧ a ≤ c)) := by
  unfold spec_l1In.f
  by_cases h : b ≤ a <;> simp [h]

def cvEvent (x : S104) : S102 := ⟨x.f0, x.f1, x.f2⟩
theorem toEventS (l : List S104) (hl : l.length ≤ 1048576) : Tot (fun k => laws_toEventS.f k l) (fun r => r = l.map cvEvent) := by
  unfold laws_toEventS.f
  refine tpos (by omega) (tpos (by omega) ?_)
  have key := trec (σ := List S102 × Int) (fun s k => laws_toEventS.l0 k l s.1 s.2) (fun s => ((l.length : Int) - s.2).toNat)
    (fun s => 0 ≤ s.2 ∧ s.2 ≤ (l.length : Int) ∧ s.1.length = l.length ∧ ∀ j : Int, 0 ≤ j → j < s.2 → s.1.getD j.toNat z102 = cvEvent (l.getD j.toNat z104)) (fun _ r => r = l.map cvEvent) ?_
  · exact key (List.replicate (l.length : Int).toNat z102, 0) ⟨Int.le_refl _, by dsimp only; omega, by simp, fun j h0 h1 => by dsimp only at h1; omega⟩
  · rintro ⟨ys, i⟩ ⟨h0, h1, h2, h3⟩ ih
    dsimp only at h0 h1 h2 h3
    simp only [laws_toEventS.l0, laws_toEvent.f, Option.bind_some]
    refine tite (fun c => ?_) (fun c => ?_)
    · refine tpos h0 (tpos (by omega) ?_)
      rw [wrap64_id (by omega) (by omega)]
      refine ih (_, i + 1) ⟨by dsimp only; omega, by dsimp only; omega, by simp [h2], ?_⟩ (by dsimp only; omega)
      intro j hj0 hj1
      dsimp only at hj1 ⊢
      by_cases e : j = i
      · subst e; rw [ld_set_self _ _ (by omega) hj0]; rfl
      · rw [ld_set_ne _ _ _ h0 hj0 (by omega)]; exact h3 j hj0 (by omega)
    · exact tsome (write_end h2 (fun j a b => h3 j a (by omega)))

theorem eqEventS (l : List S102) (hl : l.length ≤ 1048576) : Tot (fun k => laws_eqEventS.f k l l) (fun r => r = true) := by
  unfold laws_eqEventS.f
  refine tpos rfl ?_
  refine trec (σ := Int) (fun i k => laws_eqEventS.l0 k l l i) (fun i => ((l.length : Int) - i).toNat) (fun i => 0 ≤ i ∧ i ≤ (l.length : Int)) (fun _ r => r = true) ?_ 0 ⟨Int.le_refl _, by omega⟩
  rintro i ⟨h0, h1⟩ ih
  simp only [laws_eqEventS.l0, laws_eqEvent.f, if_true, Option.bind_some]
  refine tite (fun c => ?_) (fun c => tsome rfl)
  refine tpos h0 (tpos (by omega) ?_)
  rw [wrap64_id (by omega) (by omega)]
  exact ih (i + 1) ⟨by omega, by omega⟩ (by (try dsimp only); omega)

theorem szEventS (l : List S104) (n : Int) (hn : 0 ≤ n) (hn2 : n ≤ 1048576) (hl : l.length ≤ 9223372036854775807) : laws_szEventS.f l n = some (if n < l.length then -1 else n - l.length) := by
  unfold laws_szEventS.f
  simp (disch := omega) only [wrap64_id]
  by_cases h : n < l.length
  · rw [if_pos (by omega), if_pos h]
  · rw [if_neg (by omega), if_neg h]

def mkEvent (j : Int) (n : Nat) : List S102 := (List.range n).map fun i : Nat => (⟨j + 3 * (i : Int) + 0, j + 3 * (i : Int) + 1, j + 3 * (i : Int) + 2⟩ : S102)
theorem mkEvent_at (j : Int) (n : Nat) (i : Int) (h0 : 0 ≤ i) (h : i < n) : rd_T102 (mkEvent j n) i = ⟨j + 3 * i + 0, j + 3 * i + 1, j + 3 * i + 2⟩ := by
  obtain ⟨m, rfl⟩ := Int.eq_ofNat_of_zero_le h0
  have hm : m < n := by omega
  unfold rd_T102 mkEvent
  simp [List.getD, hm]
theorem markEventS (l : List S102) (j : Int) (hl : l.length ≤ 1048576) (hj : 0 ≤ j) (hj2 : j ≤ 1125899906842624) : Tot (fun k => laws_markEventS.f k l j) (fun r => r = (j + 3 * (l.length : Int), mkEvent j l.length)) := by
  unfold laws_markEventS.f
  have key := trec (σ := List S102 × Int) (fun s k => laws_markEventS.l0 k s.1 (j + 3 * s.2) s.2) (fun s => ((l.length : Int) - s.2).toNat)
    (fun s => 0 ≤ s.2 ∧ s.2 ≤ (l.length : Int) ∧ s.1.length = l.length ∧ ∀ i : Int, 0 ≤ i → i < s.2 → rd_T102 s.1 i = rd_T102 (mkEvent j l.length) i) (fun _ r => r = (j + 3 * (l.length : Int), mkEvent j l.length)) ?_
  · have h := key (l, 0) ⟨Int.le_refl _, by dsimp only; omega, rfl, fun i h0 h1 => by dsimp only at h1; omega⟩
    simpa using h
  · rintro ⟨ys, i⟩ ⟨h0, h1, h2, h3⟩ ih
    dsimp only at h0 h1 h2 h3
    simp only [laws_markEventS.l0, Option.bind_some]
    refine tite (fun c => ?_) (fun c => ?_)
    · refine tpos h0 ?_
      have hi : i.toNat < ys.length := by omega
      have e : ∀ x : S102, rd_T102 (ys.set i.toNat x) i = x := fun x => by
        unfold rd_T102; exact ld_set_self x i (by omega) h0
      simp only [e, List.set_set, wrap64_id (x := j + 3 * i + 1) (by omega) (by omega), wrap64_id (x := j + 3 * i + 1 + 1) (by omega) (by omega), wrap64_id (x := j + 3 * i + 1 + 1 + 1) (by omega) (by omega)]
      rw [show j + 3 * i + 1 + 1 + 1 = j + 3 * (i + 1) by omega, wrap64_id (x := i + 1) (by omega) (by omega)]
      refine ih (_, i + 1) ⟨by dsimp only; omega, by dsimp only; omega, by simp [h2], ?_⟩ (by dsimp only; omega)
      intro p p0 p1
      dsimp only at p1 ⊢
      by_cases ep : p = i
      · subst ep
        rw [e, mkEvent_at j _ p p0 (by omega)]
        congr 1 <;> omega
      · unfold rd_T102
        rw [ld_set_ne _ _ _ h0 p0 (by omega)]
        exact h3 p p0 (by omega)
    · obtain rfl : i = (l.length : Int) := by omega
      refine tsome ?_
      congr 1
      refine ld_ext (z := z102) (by simp [mkEvent, h2]) (fun p p0 p1 => ?_)
      exact h3 p p0 (by omega)
theorem heldEventS (j : Int) (n : Nat) (hn : n ≤ 1048576) (hj : 0 ≤ j) (hj2 : j ≤ 1125899906842624) : Tot (fun k => laws_heldEventS.f k (mkEvent j n) j) (fun r => r = j + 3 * (n : Int)) := by
  unfold laws_heldEventS.f
  have hlen : ((mkEvent j n).length : Int) = n := by simp [mkEvent]
  have key := trec (σ := Int) (fun i k => laws_heldEventS.l0 k (mkEvent j n) (j + 3 * i) i) (fun i => ((n : Int) - i).toNat) (fun i => 0 ≤ i ∧ i ≤ (n : Int)) (fun _ r => r = j + 3 * (n : Int)) ?_ 0 ⟨Int.le_refl _, by omega⟩
  · simpa using key
  · rintro i ⟨h0, h1⟩ ih
    simp only [laws_heldEventS.l0, hlen]
    refine tite (fun c => ?_) (fun c => ?_)
    · refine tpos h0 ?_
      simp only [mkEvent_at j n i h0 c]
      simp only [wrap64_id (x := j + 3 * i + 1) (by omega) (by omega), wrap64_id (x := j + 3 * i + 1 + 1) (by omega) (by omega), wrap64_id (x := j + 3 * i + 1 + 1 + 1) (by omega) (by omega)]
      refine tpos (by first | trivial | omega) ?_
      refine tpos (by first | trivial | omega) ?_
      refine tpos (by first | trivial | omega) ?_
      rw [show j + 3 * i + 1 + 1 + 1 = j + 3 * (i + 1) by omega, wrap64_id (x := i + 1) (by omega) (by omega)]
      exact ih (i + 1) ⟨by omega, by omega⟩ (by (try dsimp only); omega)
    · exact tsome (by omega)

theorem ntPitch_eq (a : Int) : spec_ntPitch.f a = some (decide (24 ≤ a ∧ a ≤ 96)) := by
  unfold spec_ntPitch.f
  simp only [l1In_eq, Option.bind_some]

theorem gcd_step (a b : Int) (ha : 0 ≤ a) (hb : 0 < b) : 0 ≤ Int.tmod a b ∧ Int.tmod a b < b ∧ Nat.gcd b.toNat (Int.tmod a b).toNat = Nat.gcd a.toNat b.toNat := by
  obtain ⟨m, rfl⟩ := Int.eq_ofNat_of_zero_le ha
  obtain ⟨n, rfl⟩ := Int.eq_ofNat_of_zero_le (Int.le_of_lt hb)
  have e : Int.tmod (m : Int) (n : Int) = ((m % n : Nat) : Int) := rfl
  rw [e]
  have h1 : m % n < n := Nat.mod_lt _ (by omega)
  refine ⟨by omega, by omega, ?_⟩
  simp only [Int.toNat_natCast]
  rw [Nat.gcd_comm m n, Nat.gcd_rec n m, Nat.gcd_comm]
theorem gcd_tot (a b : Int) (ha : 0 ≤ a) (hb : 0 ≤ b) : Tot (fun k => impl_gcd.f k a b) (fun r => r = (Nat.gcd a.toNat b.toNat : Int)) := by
  unfold impl_gcd.f
  refine trec (σ := Int × Int) (fun s k => impl_gcd.l0 k s.1 s.2) (fun s => s.2.toNat) (fun s => 0 ≤ s.1 ∧ 0 ≤ s.2 ∧ Nat.gcd s.1.toNat s.2.toNat = Nat.gcd a.toNat b.toNat) (fun _ r => r = (Nat.gcd a.toNat b.toNat : Int)) ?_ (a, b) ⟨ha, hb, rfl⟩
  rintro ⟨x, y⟩ ⟨hx, hy, hg⟩ ih
  dsimp only at hx hy hg
  simp only [impl_gcd.l0]
  refine tite (fun c => tsome ?_) (fun c => ?_)
  · subst c
    rw [← hg]
    simp
    omega
  · obtain ⟨h1, h2, h3⟩ := gcd_step x y hx (by omega)
    exact ih (y, Int.tmod x y) ⟨hy, h1, by dsimp only; rw [h3, hg]⟩ (by dsimp only; omega)
theorem gcd_pos (a b : Int) (hb : 0 < b) : 0 < (Nat.gcd a.toNat b.toNat : Int) := by
  have : 0 < Nat.gcd a.toNat b.toNat := Nat.gcd_pos_of_pos_right _ (by omega)
  omega
theorem tdiv_eq (a g : Int) (ha : 0 ≤ a) (ha2 : a ≤ 4611686018427387904) (hg : 0 < g) : wrap64 (Int.tdiv a g) = a / g := by
  rw [Int.tdiv_eq_ediv_of_nonneg ha]
  have h1 : 0 ≤ a / g := Int.ediv_nonneg ha (by omega)
  have h2 : a / g ≤ a := Int.ediv_le_self _ ha
  exact wrap64_id (by omega) (by omega)

theorem lowest_tot (a b : Int) (ha : 0 ≤ a) (ha2 : a ≤ 4611686018427387904) (hb : 0 < b) (hb2 : b ≤ 4611686018427387904) : Tot (fun k => impl_lowest.f k a b) (fun r => r = (a / (Nat.gcd a.toNat b.toNat : Int), b / (Nat.gcd a.toNat b.toNat : Int))) := by
  unfold impl_lowest.f
  refine tbind (gcd_tot a b ha (by omega)) (fun _ e => ?_); subst e
  have hg := gcd_pos a b hb
  refine tneg (by omega) ?_
  exact tsome (by rw [tdiv_eq a _ ha ha2 hg, tdiv_eq b _ (by omega) hb2 hg])

theorem noPart_tot (a b : Int) (ha : 0 ≤ a) (ha2 : a ≤ 4611686018427387904) (hb : 0 < b) (hb2 : b ≤ 4611686018427387904) : Tot (fun k => spec_noPart.f k a b) (fun r => r = (a / (Nat.gcd a.toNat b.toNat : Int), b / (Nat.gcd a.toNat b.toNat : Int))) := by
  unfold spec_noPart.f
  have habs : spec_l1Abs.f a = some a := by
    unfold spec_l1Abs.f spec_l1Most.f
    rw [wrap64_id (by omega) (by omega)]
    by_cases h : a > -a
    · rw [if_pos h]; rfl
    · rw [if_neg h]
      have : -a = a := by omega
      rw [this]; rfl
  rw [habs]
  simp only [Option.bind_some]
  have hg := gcd_pos a b hb
  refine trec (σ := Int × Int) (fun s k => spec_noPart.l0 k a b s.1 s.2) (fun s => s.2.toNat) (fun s => 0 ≤ s.1 ∧ 0 ≤ s.2 ∧ Nat.gcd s.1.toNat s.2.toNat = Nat.gcd a.toNat b.toNat) (fun _ r => r = (a / (Nat.gcd a.toNat b.toNat : Int), b / (Nat.gcd a.toNat b.toNat : Int))) ?_ (a, b) ⟨ha, by dsimp only; omega, rfl⟩
  rintro ⟨x, y⟩ ⟨hx, hy, hgx⟩ ih
  dsimp only at hx hy hgx
  simp only [spec_noPart.l0]
  refine tite (fun c => ?_) (fun c => ?_)
  · refine tneg (by omega) ?_
    obtain ⟨h1, h2, h3⟩ := gcd_step x y hx c
    exact ih (y, Int.tmod x y) ⟨hy, h1, by dsimp only; rw [h3, hgx]⟩ (by dsimp only; omega)
  · obtain rfl : y = 0 := by omega
    have e : x = (Nat.gcd a.toNat b.toNat : Int) := by
      rw [← hgx]; simp; omega
    refine tneg (by omega) ?_
    exact tsome (by rw [e, tdiv_eq a _ ha ha2 hg, tdiv_eq b _ (by omega) hb2 hg])

def OkEvent (a b c : Int) : Prop := (a = 0 ∨ (24 ≤ a ∧ a ≤ 96)) ∧ (1 ≤ b ∧ b ≤ 99) ∧ (1 ≤ c ∧ c ≤ 16) ∧ Nat.gcd b.toNat c.toNat = 1
theorem div_one {b g : Int} (hb : 0 < b) (hg : 0 < g) : b / g = b ↔ g = 1 := by
  constructor
  · intro h
    by_cases h1 : 1 < g
    · have h2 : b / g < b := by
        apply Int.ediv_lt_of_lt_mul hg
        have : b * 2 ≤ b * g := Int.mul_le_mul_of_nonneg_left (by omega) (by omega)
        omega
      omega
    · omega
  · intro h; subst h; simp
theorem noEvent_tot (a b c : Int) : Tot (fun k => spec_noEvent.f k a b c) (fun r => (r = true) ↔ OkEvent a b c) := by
  have hF : ¬ OkEvent a b c → Tot (fun _ => some false) (fun r => (r = true) ↔ OkEvent a b c) := fun h => tsome ⟨(fun g => by simp at g), (fun g => absurd g h)⟩
  have hT : (a = 0 ∨ (24 ≤ a ∧ a ≤ 96)) → (1 ≤ b ∧ b ≤ 99) → (1 ≤ c ∧ c ≤ 16) → Tot (fun k => (spec_noPart.f k b c).bind fun r => some (r.2 == c)) (fun r => (r = true) ↔ OkEvent a b c) := by
    intro h1 h2 h3
    refine tbind (noPart_tot b c (by omega) (by omega) (by omega) (by omega)) (fun _ e => ?_); subst e
    refine tsome ?_
    dsimp only
    rw [beq_iff_eq, div_one (by omega) (gcd_pos b c (by omega))]
    exact ⟨fun h => ⟨h1, h2, h3, by omega⟩, fun h => by have := h.2.2.2; omega⟩
  unfold spec_noEvent.f
  simp only [ntPitch_eq, l1In_eq, Option.bind_some, decide_eq_true_eq]
  refine tite (fun c0 => ?_) (fun c0 => tite (fun c1 => ?_) (fun c1 => hF (fun h => by have := h.1; omega)))
  all_goals
    refine tite (fun c2 => ?_) (fun c2 => hF (fun h => c2 h.2.1))
    refine tite (fun c3 => ?_) (fun c3 => hF (fun h => c3 h.2.2.1))
  · exact hT (.inl c0) c2 c3
  · exact hT (.inr c1) c2 c3
theorem implIsPitch_eq (a : Int) : impl_isPitch.f a = some (decide (24 ≤ a ∧ a ≤ 96)) := by
  unfold impl_isPitch.f
  by_cases h : 24 ≤ a <;> simp [h]
theorem isEvent_tot (a b c : Int) : Tot (fun k => impl_isEvent.f k a b c) (fun r => (r = true) ↔ OkEvent a b c) := by
  have hF : ¬ OkEvent a b c → Tot (fun _ => some false) (fun r => (r = true) ↔ OkEvent a b c) := fun h => tsome ⟨(fun g => by simp at g), (fun g => absurd g h)⟩
  have hT : (a = 0 ∨ (24 ≤ a ∧ a ≤ 96)) → 1 ≤ b → b ≤ 99 → 1 ≤ c → c ≤ 16 → Tot (fun k => (impl_gcd.f k b c).bind fun r => some (r == 1)) (fun r => (r = true) ↔ OkEvent a b c) := by
    intro h1 h2 h3 h4 h5
    refine tbind (gcd_tot b c (by omega) (by omega)) (fun _ e => ?_); subst e
    refine tsome ?_
    rw [beq_iff_eq]
    exact ⟨fun h => ⟨h1, ⟨h2, h3⟩, ⟨h4, h5⟩, by omega⟩, fun h => by have := h.2.2.2; omega⟩
  unfold impl_isEvent.f
  simp only [implIsPitch_eq, Option.bind_some, decide_eq_true_eq]
  refine tite (fun c0 => ?_) (fun c0 => tite (fun c1 => ?_) (fun c1 => hF (fun h => by have := h.1; omega)))
  all_goals
    refine tite (fun c2 => ?_) (fun c2 => hF (fun h => by have := h.2.1; omega))
    refine tite (fun c3 => ?_) (fun c3 => hF (fun h => by have := h.2.1; omega))
    refine tite (fun c4 => ?_) (fun c4 => hF (fun h => by have := h.2.2.1; omega))
    refine tite (fun c5 => ?_) (fun c5 => hF (fun h => by have := h.2.2.1; omega))
  · exact hT (.inl c0) c2 c3 c4 c5
  · exact hT (.inr c1) c2 c3 c4 c5
def VoC (l : List S102) (j : Int) : Prop := OkEvent (rd_T102 l j).f0 (rd_T102 l j).f1 (rd_T102 l j).f2
def VoGood (l : List S102) : Prop := (∀ j : Int, 0 ≤ j → j < (l.length : Int) → VoC l j) ∧ (l.length : Int) ≤ 20

theorem spec_noGood_tot (l : List S102) (hl : l.length ≤ 1048576) : Tot (fun k => spec_noGood.f k l) (fun b => (b = true) ↔ VoGood l) := by
  unfold spec_noGood.f
  refine trec (σ := Int) (fun i k => spec_noGood.l0 k l l (l.length : Int) i) (fun i => ((l.length : Int) - i).toNat) (fun i => 0 ≤ i ∧ i ≤ (l.length : Int))
    (fun i b => (b = true) ↔ ((∀ j : Int, i ≤ j → j < (l.length : Int) → VoC l j) ∧ (l.length : Int) ≤ 20)) ?_ 0 ⟨Int.le_refl _, by omega⟩
  rintro i ⟨h0, h1⟩ ih
  simp only [spec_noGood.l0]
  refine tite (fun c => ?_) (fun c => tsome (all_end c (by simp only [decide_eq_true_eq])))
  refine tpos h0 (tpos c ?_)
  refine tbind (noEvent_tot _ _ _) (fun b hb => ?_)
  refine tite (fun c2 => ?_) (fun c2 => tsome (all_no c (fun h => c2 (hb.2 h))))
  rw [wrap64_id (by omega) (by omega)]
  exact tmono (ih (i + 1) ⟨by omega, by omega⟩ (by (try dsimp only); omega)) (fun b2 hb2 => all_go c (hb.1 c2) hb2)

theorem impl_IsVoice_tot (l : List S102) (hl : l.length ≤ 1048576) : Tot (fun k => impl_IsVoice.f k l) (fun b => (b = true) ↔ VoGood l) := by
  unfold impl_IsVoice.f
  refine trec (σ := Int) (fun i k => impl_IsVoice.l0 k l l (l.length : Int) i) (fun i => ((l.length : Int) - i).toNat) (fun i => 0 ≤ i ∧ i ≤ (l.length : Int))
    (fun i b => (b = true) ↔ ((∀ j : Int, i ≤ j → j < (l.length : Int) → VoC l j) ∧ (l.length : Int) ≤ 20)) ?_ 0 ⟨Int.le_refl _, by omega⟩
  rintro i ⟨h0, h1⟩ ih
  simp only [impl_IsVoice.l0]
  refine tite (fun c => ?_) (fun c => tsome (all_end c (by simp only [decide_eq_true_eq])))
  refine tpos h0 (tpos c ?_)
  refine tbind (isEvent_tot _ _ _) (fun b hb => ?_)
  refine tite (fun c2 => ?_) (fun c2 => tsome (all_no c (fun h => c2 (hb.2 h))))
  rw [wrap64_id (by omega) (by omega)]
  exact tmono (ih (i + 1) ⟨by omega, by omega⟩ (by (try dsimp only); omega)) (fun b2 hb2 => all_go c (hb.1 c2) hb2)

theorem l1Most_eq (a b : Int) : spec_l1Most.f a b = some (mx a b) := by
  unfold spec_l1Most.f mx
  by_cases h : a > b
  · rw [if_pos h, if_neg (by omega)]
  · rw [if_neg h]
    by_cases h2 : a < b
    · rw [if_pos h2]
    · rw [if_neg h2]
      congr 1; omega

def voT (l : List S102) : Nat → Nat
  | 0 => 0
  | i + 1 => voT l i + (rd_T102 l i).f1.toNat * (720720 / (rd_T102 l i).f2.toNat)
theorem den_div (d : Nat) (h0 : 1 ≤ d) (h : d ≤ 16) : 720720 / d * d = 720720 := by
  have key : ∀ d : Nat, d < 17 → 0 < d → 720720 / d * d = 720720 := by decide
  exact key d (by omega) (by omega)
theorem den_le (d : Nat) : 720720 / d ≤ 720720 := Nat.div_le_self _ _
structure EvN (l : List S102) (i n d : Nat) : Prop where
  num : (rd_T102 l i).f1 = (n : Int)
  den : (rd_T102 l i).f2 = (d : Int)
  n1 : 1 ≤ n
  n2 : n ≤ 99
  d1 : 1 ≤ d
  d2 : d ≤ 16
theorem evN {l : List S102} {i : Nat} (h : VoC l i) : ∃ n d, EvN l i n d := by
  unfold VoC OkEvent at h
  exact ⟨(rd_T102 l i).f1.toNat, (rd_T102 l i).f2.toNat, ⟨by omega, by omega, by omega, by omega, by omega, by omega⟩⟩
theorem voT_succ {l : List S102} {i n d : Nat} (h : EvN l i n d) : voT l (i + 1) = voT l i + n * (720720 / d) := by
  conv => lhs; unfold voT
  rw [h.num, h.den, Int.toNat_natCast, Int.toNat_natCast]
def VoAll (l : List S102) : Prop := ∀ j : Int, 0 ≤ j → j < (l.length : Int) → VoC l j
theorem mul99 {n x : Nat} (hn : n ≤ 99) (hx : x ≤ 720720) : n * x ≤ 71351280 := by
  have h1 : n * x ≤ 99 * x := Nat.mul_le_mul_right _ hn
  omega
theorem voT_le {l : List S102} (hv : VoAll l) (i : Nat) (hi : i ≤ l.length) : voT l i ≤ i * 71351280 := by
  induction i with
  | zero => simp [voT]
  | succ i ih =>
    obtain ⟨n, d, h⟩ := evN (hv i (by omega) (by omega))
    rw [voT_succ h]
    have := ih (by omega)
    have := mul99 h.n2 (den_le d)
    omega
theorem rd_take {l : List S102} (i j : Nat) (h : j < i) : rd_T102 (l.take i) (j : Int) = rd_T102 l (j : Int) := by
  unfold rd_T102
  exact ld_take i (j : Int) (by omega) (by omega)
theorem voT_take {l : List S102} (i j : Nat) (h : j ≤ i) : voT (l.take i) j = voT l j := by
  induction j with
  | zero => rfl
  | succ j ih =>
    unfold voT
    rw [ih (by omega), rd_take i j (by omega)]
theorem VoAll.take {l : List S102} (hv : VoAll l) (i : Nat) : VoAll (l.take i) := by
  intro j h0 h1
  obtain ⟨m, rfl⟩ := Int.eq_ofNat_of_zero_le h0
  simp at h1
  have := hv m h0 (by omega)
  unfold VoC at this ⊢
  rw [rd_take i m (by omega)]
  exact this
/-- A fraction in lowest terms. -/
def low (p q : Nat) : Int × Int := (((p / Nat.gcd p q : Nat) : Int), ((q / Nat.gcd p q : Nat) : Int))
theorem low_eq (p q : Nat) : ((p : Int) / (Nat.gcd (p : Int).toNat (q : Int).toNat : Int), (q : Int) / (Nat.gcd (p : Int).toNat (q : Int).toNat : Int)) = low p q := by
  unfold low
  simp only [Int.toNat_natCast, Int.natCast_ediv]
theorem low_scale (p q s : Nat) (hs : 0 < s) : low (p * s) (q * s) = low p q := by
  unfold low
  rw [Nat.gcd_mul_right, Nat.mul_div_mul_right _ _ hs, Nat.mul_div_mul_right _ _ hs]
theorem low_unique {p q r s : Nat} (hq : 0 < q) (hs : 0 < s) (h : p * s = r * q) : low p q = low r s := by
  rw [← low_scale p q s hs, ← low_scale r s q hq, h, Nat.mul_comm q s]
structure LowN (p q a b g : Nat) : Prop where
  e : low p q = ((a : Int), (b : Int))
  p : p = a * g
  q : q = b * g
  g : 0 < g
theorem lowN (p q : Nat) (hq : 0 < q) : ∃ a b g, LowN p q a b g := by
  have hg : 0 < Nat.gcd p q := Nat.gcd_pos_of_pos_right _ hq
  exact ⟨p / Nat.gcd p q, q / Nat.gcd p q, Nat.gcd p q, ⟨rfl, (Nat.div_mul_cancel (Nat.gcd_dvd_left p q)).symm, (Nat.div_mul_cancel (Nat.gcd_dvd_right p q)).symm, hg⟩⟩
theorem LowN.b_pos {p q a b g : Nat} (h : LowN p q a b g) (hq : 0 < q) : 0 < b := by
  rcases Nat.eq_zero_or_pos b with h0 | h0
  · have := h.q
    rw [h0, Nat.zero_mul] at this
    omega
  · exact h0
theorem LowN.le {p q a b g : Nat} (h : LowN p q a b g) : a ≤ p ∧ b ≤ q := by
  have h1 : a * 1 ≤ a * g := Nat.mul_le_mul_left _ h.g
  have h2 : b * 1 ≤ b * g := Nat.mul_le_mul_left _ h.g
  rw [h.p, h.q]
  omega
theorem low_step {t a b g n d : Nat} (h : LowN t 720720 a b g) (hd1 : 1 ≤ d) (hd2 : d ≤ 16) : low (a * d + n * b) (b * d) = low (t + n * (720720 / d)) 720720 := by
  have hb := h.b_pos (by omega)
  refine low_unique (Nat.mul_pos hb (by omega)) (by omega) ?_
  have hw := h.q
  have hdd := den_div d hd1 hd2
  obtain ⟨x, hx⟩ : ∃ x, x = 720720 / d := ⟨_, rfl⟩
  rw [← hx] at hdd ⊢
  rw [h.p]
  calc (a * d + n * b) * 720720 = a * d * 720720 + n * b * 720720 := Nat.add_mul _ _ _
    _ = a * d * (b * g) + n * b * (x * d) := by rw [← hw, hdd]
    _ = a * g * (b * d) + n * x * (b * d) := by
      congr 1
      · ac_rfl
      · ac_rfl
    _ = (a * g + n * x) * (b * d) := (Nat.add_mul _ _ _).symm
theorem noPartN_tot (p q : Nat) (hp : p ≤ 4611686018427387904) (hq : 0 < q) (hq2 : q ≤ 4611686018427387904) (x y : Int) (hx : x = (p : Int)) (hy : y = (q : Int)) : Tot (fun k => spec_noPart.f k x y) (fun r => r = low p q) := by
  subst hx; subst hy
  have := noPart_tot (p : Int) (q : Int) (by omega) (by omega) (by omega) (by omega)
  rw [low_eq] at this
  exact this

theorem lowestN_tot (p q : Nat) (hp : p ≤ 4611686018427387904) (hq : 0 < q) (hq2 : q ≤ 4611686018427387904) (x y : Int) (hx : x = (p : Int)) (hy : y = (q : Int)) : Tot (fun k => impl_lowest.f k x y) (fun r => r = low p q) := by
  subst hx; subst hy
  have := lowest_tot (p : Int) (q : Int) (by omega) (by omega) (by omega) (by omega)
  rw [low_eq] at this
  exact this

theorem take_succ_map {α β : Type} (z : α) (f : α → β) (l : List α) (i : Nat) (h : i < l.length) : (l.take (i + 1)).map f = (l.take i).map f ++ [f (l.getD i z)] := by
  rw [List.take_succ_eq_append_getElem h, List.map_append]
  simp [List.getD, h]

theorem noIf_tot (l : List S102) (hl : l.length ≤ 1048576) : Tot (fun k => spec_noIf.f k l) (fun r => (VoGood l ∧ r = (l, true)) ∨ (¬ VoGood l ∧ r = ([], false))) := by
  unfold spec_noIf.f
  exact tbind (spec_noGood_tot l hl) (fun b hb => tite (fun c => tsome (.inl ⟨hb.1 c, rfl⟩)) (fun c => tsome (.inr ⟨fun h => c (hb.2 h), rfl⟩)))

theorem voiceOf_tot (l : List S102) (hl : l.length ≤ 1048576) : Tot (fun k => impl_voiceOf.f k l) (fun r => (VoGood l ∧ r = (l, true)) ∨ (¬ VoGood l ∧ r = ([], false))) := by
  unfold impl_voiceOf.f
  exact tbind (impl_IsVoice_tot l hl) (fun b hb => tite (fun c => tsome (.inl ⟨hb.1 c, rfl⟩)) (fun c => tsome (.inr ⟨fun h => c (hb.2 h), rfl⟩)))

def stE (a b : Nat) (x : S102) : S102 := ⟨x.f0, (low (x.f1.toNat * a) (x.f2.toNat * b)).1, (low (x.f1.toNat * a) (x.f2.toNat * b)).2⟩
def stPost (l : List S102) (a b : Nat) (r : List S102 × Bool) : Prop := (VoGood (l.map (stE a b)) ∧ r = (l.map (stE a b), true)) ∨ (¬ VoGood (l.map (stE a b)) ∧ r = ([], false))
theorem stPost.det {l : List S102} {a b : Nat} {r r' : List S102 × Bool} (h : stPost l a b r) (h' : stPost l a b r') : r = r' := by
  rcases h with ⟨x, e⟩ | ⟨x, e⟩ <;> rcases h' with ⟨x', e'⟩ | ⟨x', e'⟩
  · rw [e, e']
  · exact absurd x x'
  · exact absurd x' x
  · rw [e, e']

theorem specSt_tot (l : List S102) (hg : VoGood l) (a b : Nat) (a1 : 1 ≤ a) (a2 : a ≤ 16) (b1 : 1 ≤ b) (b2 : b ≤ 16) : Tot (fun k => spec_StretchVoice.l0 k (a : Int) (b : Int) [] l (l.length : Int) 0) (fun r => stPost l a b r) := by
  have hn := hg.2
  refine trec (σ := Nat) (fun i k => spec_StretchVoice.l0 k (a : Int) (b : Int) ((l.take i).map (stE a b)) l (l.length : Int) (i : Int)) (fun i => l.length - i) (fun i => i ≤ l.length) (fun _ r => stPost l a b r) ?_ 0 (Nat.zero_le _)
  intro i hi ih
  simp only [spec_StretchVoice.l0, wrap64_id (x := (i : Int) + 1) (by omega) (by omega)]
  refine tite (fun c => ?_) (fun c => ?_)
  · refine tpos (by omega) (tpos c ?_)
    obtain ⟨n, d, h⟩ := evN (hg.1 i (by omega) c)
    have hlen : ((l.take i).map (stE a b)).length ≤ i := by simp; omega
    have n2 := h.n2
    have d2 := h.d2
    have m1 : n * a ≤ 99 * 16 := Nat.mul_le_mul n2 a2
    have m2 : d * b ≤ 16 * 16 := Nat.mul_le_mul d2 b2
    have e1 : (n : Int) * (a : Int) = ((n * a : Nat) : Int) := by simp
    have e2 : (d : Int) * (b : Int) = ((d * b : Nat) : Int) := by simp
    rw [h.num, h.den, e1, e2, wrap64_id (x := ((n * a : Nat) : Int)) (by omega) (by omega), wrap64_id (x := ((d * b : Nat) : Int)) (by omega) (by omega)]
    refine tbind (noPartN_tot (n * a) (d * b) (by omega) (Nat.mul_pos h.d1 b1) (by omega) _ _ rfl rfl) (fun _ e => ?_); subst e
    refine tpos (by omega) ?_
    have hh := ih (i + 1) (by omega) (by omega)
    rw [take_succ_map z102 (stE a b) l i (by omega)] at hh
    have e3 : stE a b (l.getD i z102) = ⟨(rd_T102 l (i : Int)).f0, (low (n * a) (d * b)).1, (low (n * a) (d * b)).2⟩ := by
      have q1 := h.num
      have q2 := h.den
      unfold rd_T102 at q1 q2 ⊢
      rw [Int.toNat_natCast] at q1 q2 ⊢
      unfold stE
      rw [q1, q2, Int.toNat_natCast, Int.toNat_natCast]
    rw [e3] at hh
    simpa using hh
  · obtain rfl : i = l.length := by omega
    rw [List.take_length]
    refine tbind (noIf_tot (l.map (stE a b)) (by simp; omega)) (fun r hr => ?_)
    rcases hr with ⟨h, rfl⟩ | ⟨h, rfl⟩
    · exact tsome (.inl ⟨h, rfl⟩)
    · exact tsome (.inr ⟨h, rfl⟩)

theorem implSt_tot (l : List S102) (hg : VoGood l) (a b : Nat) (a1 : 1 ≤ a) (a2 : a ≤ 16) (b1 : 1 ≤ b) (b2 : b ≤ 16) : Tot (fun k => impl_StretchVoice.l0 k (a : Int) (b : Int) [] l (l.length : Int) 0) (fun r => stPost l a b r) := by
  have hn := hg.2
  refine trec (σ := Nat) (fun i k => impl_StretchVoice.l0 k (a : Int) (b : Int) ((l.take i).map (stE a b)) l (l.length : Int) (i : Int)) (fun i => l.length - i) (fun i => i ≤ l.length) (fun _ r => stPost l a b r) ?_ 0 (Nat.zero_le _)
  intro i hi ih
  simp only [impl_StretchVoice.l0, wrap64_id (x := (i : Int) + 1) (by omega) (by omega)]
  refine tite (fun c => ?_) (fun c => ?_)
  · refine tpos (by omega) (tpos c ?_)
    obtain ⟨n, d, h⟩ := evN (hg.1 i (by omega) c)
    have hlen : ((l.take i).map (stE a b)).length ≤ i := by simp; omega
    have n2 := h.n2
    have d2 := h.d2
    have m1 : n * a ≤ 99 * 16 := Nat.mul_le_mul n2 a2
    have m2 : d * b ≤ 16 * 16 := Nat.mul_le_mul d2 b2
    have e1 : (n : Int) * (a : Int) = ((n * a : Nat) : Int) := by simp
    have e2 : (d : Int) * (b : Int) = ((d * b : Nat) : Int) := by simp
    rw [h.num, h.den, e1, e2, wrap64_id (x := ((n * a : Nat) : Int)) (by omega) (by omega), wrap64_id (x := ((d * b : Nat) : Int)) (by omega) (by omega)]
    refine tbind (lowestN_tot (n * a) (d * b) (by omega) (Nat.mul_pos h.d1 b1) (by omega) _ _ rfl rfl) (fun _ e => ?_); subst e
    refine tpos (by omega) ?_
    have hh := ih (i + 1) (by omega) (by omega)
    rw [take_succ_map z102 (stE a b) l i (by omega)] at hh
    have e3 : stE a b (l.getD i z102) = ⟨(rd_T102 l (i : Int)).f0, (low (n * a) (d * b)).1, (low (n * a) (d * b)).2⟩ := by
      have q1 := h.num
      have q2 := h.den
      unfold rd_T102 at q1 q2 ⊢
      rw [Int.toNat_natCast] at q1 q2 ⊢
      unfold stE
      rw [q1, q2, Int.toNat_natCast, Int.toNat_natCast]
    rw [e3] at hh
    simpa using hh
  · obtain rfl : i = l.length := by omega
    rw [List.take_length]
    refine tbind (voiceOf_tot (l.map (stE a b)) (by simp; omega)) (fun r hr => ?_)
    rcases hr with ⟨h, rfl⟩ | ⟨h, rfl⟩
    · exact tsome (.inl ⟨h, rfl⟩)
    · exact tsome (.inr ⟨h, rfl⟩)

theorem stretchVoice_agree (l : List S102) (a b : Int) (hl : l.length ≤ 1048576) : ∃ r, Tot (fun k => spec_StretchVoice.f k l a b) (fun y => y = r) ∧ Tot (fun k => impl_StretchVoice.f k l a b) (fun y => y = r) ∧ r.1.length ≤ 1048576 := by
  have sF : Tot (fun k => spec_StretchVoice.j0 k l a b true) (fun y => y = ([], false)) := by
    refine tstep ?_
    simp only [spec_StretchVoice.j0, if_true]
    exact tsome rfl
  have iF : Tot (fun k => impl_StretchVoice.j0 k l a b true) (fun y => y = ([], false)) := by
    refine tstep ?_
    simp only [impl_StretchVoice.j0, if_true]
    exact tsome rfl
  by_cases hg : VoGood l ∧ (1 ≤ a ∧ a ≤ 16) ∧ 1 ≤ b ∧ b ≤ 16
  · obtain ⟨hg, ha, hb⟩ := hg
    obtain ⟨m, rfl⟩ := Int.eq_ofNat_of_zero_le (show 0 ≤ a by omega)
    obtain ⟨n, rfl⟩ := Int.eq_ofNat_of_zero_le (show 0 ≤ b by omega)
    obtain ⟨r, hr, hR⟩ := specSt_tot l hg m n (by omega) (by omega) (by omega) (by omega)
    refine ⟨r, ?_, ?_, ?_⟩
    · unfold spec_StretchVoice.f
      refine tbind (spec_noGood_tot l hl) (fun b h => tpos (h.2 hg) ?_)
      simp only [l1In_eq, Option.bind_some, decide_eq_true_eq]
      refine tpos ha ?_
      rw [decide_eq_true hb, Bool.not_true]
      refine tstep ?_
      simp only [spec_StretchVoice.j0]
      exact tneg (by simp) ⟨r, hr, rfl⟩
    · unfold impl_StretchVoice.f
      refine tbind (impl_IsVoice_tot l hl) (fun b h => tpos (h.2 hg) ?_)
      refine tneg (by omega) (tneg (by omega) (tneg (by omega) ?_))
      rw [decide_eq_false (show ¬ (n : Int) > 16 by omega)]
      refine tstep ?_
      simp only [impl_StretchVoice.j0]
      exact tneg (by simp) (tmono (implSt_tot l hg m n (by omega) (by omega) (by omega) (by omega)) (fun y hy => hy.det hR))
    · rcases hR with ⟨_, rfl⟩ | ⟨_, rfl⟩ <;> simp
      exact hl
  · refine ⟨([], false), ?_, ?_, by simp⟩
    · unfold spec_StretchVoice.f
      refine tbind (spec_noGood_tot l hl) (fun x h => tite (fun c => ?_) (fun c => sF))
      simp only [l1In_eq, Option.bind_some, decide_eq_true_eq]
      refine tite (fun c2 => ?_) (fun c2 => sF)
      rw [decide_eq_false (fun hh => hg ⟨h.1 c, c2, hh⟩), Bool.not_false]
      exact sF
    · unfold impl_StretchVoice.f
      refine tbind (impl_IsVoice_tot l hl) (fun x h => tite (fun c => tite (fun c2 => iF) (fun c2 => tite (fun c3 => iF) (fun c3 => tite (fun c4 => iF) (fun c4 => ?_)))) (fun c => iF))
      rw [decide_eq_true (show b > 16 from Classical.byContradiction fun hh => hg ⟨h.1 c, by omega, by omega⟩)]
      exact iF

def inpl {α : Type} (f : α → α) (l : List α) (i : Nat) : List α := (l.take i).map f ++ l.drop i
theorem inpl_len {α : Type} (f : α → α) (l : List α) (i : Nat) (h : i ≤ l.length) : (inpl f l i).length = l.length := by
  unfold inpl; simp; omega
theorem inpl_zero {α : Type} (f : α → α) (l : List α) : inpl f l 0 = l := by simp [inpl]
theorem inpl_end {α : Type} (f : α → α) (l : List α) : inpl f l l.length = l.map f := by simp [inpl]
theorem inpl_at {α : Type} (z : α) (f : α → α) (l : List α) (i : Nat) (h : i < l.length) : (inpl f l i).getD i z = l.getD i z := by
  unfold inpl
  have h1 : ((l.take i).map f).length = i := by simp; omega
  rw [List.getD, List.getElem?_append_right (by omega), h1, Nat.sub_self]
  simp [List.getD, h]
theorem inpl_set {α : Type} (z : α) (f : α → α) (l : List α) (i : Nat) (h : i < l.length) : (inpl f l i).set i (f (l.getD i z)) = inpl f l (i + 1) := by
  unfold inpl
  have h1 : ((l.take i).map f).length = i := by simp; omega
  rw [List.set_append_right _ _ (by omega), h1, Nat.sub_self, List.drop_eq_getElem_cons h, List.set_cons_zero, List.take_succ_eq_append_getElem h, List.map_append, List.append_assoc]
  simp [List.getD, h]
theorem take_up {α β : Type} (z : α) (f : α → β) (l : List α) (i : Nat) (h : i < l.length) : (l.take (i + 1)).map f = (l.take i).map f ++ [f (l.getD i z)] := by
  rw [List.take_succ_eq_append_getElem h, List.map_append]
  simp [List.getD, h]


theorem FnExactStretchVoice (l0 : List (S104)) (a1 : Int) (a2 : Int) (hm0 : l0.length ≤ 9223372036854775807) (hw0 : ∀ y ∈ l0, Glue.wf64 y.f0 ∧ Glue.wf64 y.f1 ∧ Glue.wf64 y.f2) (w1 : Glue.wf64 a1) (w2 : Glue.wf64 a2) : ∃ k, laws_FnExactStretchVoice.f k l0 a1 a2 = some true := by
  refine rounds ?_
  unfold laws_FnExactStretchVoice.f
  rw [szEventS l0 (1048576 : Int) (by omega) (by omega) hm0]
  simp only [Option.bind_some]
  by_cases hl0 : (1048576 : Int) < (l0.length : Int)
  · simp only [if_pos hl0]; exact tpos (by omega) (tsome rfl)
  simp only [if_neg hl0]
  refine tneg (by omega) ?_
  obtain ⟨r, hS, hI, hR⟩ := stretchVoice_agree (l0.map cvEvent) a1 a2 (by simp; omega)
  repeat first
    | exact tsome rfl
    | (refine tbind hS (fun _ e => ?_); subst e)
    | (refine tbind hI (fun _ e => ?_); subst e)
    | (refine tbind (toEventS l0 (by omega)) (fun _ e => ?_); subst e)
    | (refine tbind (eqEventS _ (by first | omega | (dsimp only; omega) | (simp; omega) | assumption)) (fun _ e => ?_); subst e)
    | (refine tbind (eqEventS _ (by first | assumption | omega | (dsimp only; omega) | (simp; omega))) (fun _ e => ?_); subst e)
    | (refine tbind (markEventS _ 1 (by first | assumption | omega | (dsimp only; omega) | (simp; omega)) (by omega) (by omega)) (fun _ e => ?_); subst e)
    | (refine tbind (heldEventS 1 _ (by first | omega | (simp; omega)) (by omega) (by omega)) (fun _ e => ?_); subst e)
    | (refine tbind (markEventS _ _ (by first | omega | (simp; omega)) (by omega) (by omega)) (fun _ e => ?_); subst e)
    | refine tpos rfl ?_
    | refine tneg (by dsimp only; omega) ?_
    | refine tneg (by omega) ?_
    | refine tneg (by simp; done) ?_
    | refine tpos (by dsimp only) ?_
    | (refine tstep ?_; simp only [laws_FnExactStretchVoice.j0])
    | (refine tstep ?_; simp only [laws_FnExactStretchVoice.j1])
    | (refine tstep ?_; simp only [laws_FnExactStretchVoice.j2])
end Go.Proofs.Ytioagkpinneheaa.Pure
