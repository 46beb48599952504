/- The plain side of the law FnExactMergeRests: lists and numbers alone. -/
import Derived.Test.YtjgpngeifgcidaaPFnExactMergeRestsx6
import Derived.Test.YtjgpngeifgcidaaGlue
import Derived.Test.YtjgpngeifgcidaaTot
set_option linter.unusedVariables false
set_option linter.unusedSimpArgs false
namespace Go.Proofs.Ytjgpngeifgcidaa.Pure
open Go.RowKit Go.Proofs.Ytjgpngeifgcidaa.PFnExactMergeRests Go.Proofs.YtjgpngeifgcidaaW.PrintWords Go.Proofs.YtjgpngeifgcidaaW.PrintMore Go.Proofs.Ytjgpngeifgcidaa.Tot

theorem l1In_eq (a b c : Int) : spec_l1In.f a b c = some (decide (b ≤ a ∧ a ≤ c)) := by
  unfold spec_l1In.f
  by_cases h : b ≤ a <;> simp [h]

def cvEvent (x : S103) : S99 := ⟨x.f0, x.f1, x.f2⟩
theorem toEventS (l : List S103) (hl : l.length ≤ 1048576) : Tot (fun k => laws_toEventS.f k l) (fun r => r = l.map cvEvent) := by
  unfold laws_toEventS.f
  refine tpos (by omega) (tpos (by omega) ?_)
  have key := trec (σ := List S99 × Int) (fun s k => laws_toEventS.l0 k l s.1 s.2) (fun s => ((l.length : Int) - s.2).toNat)
    (fun s => 0 ≤ s.2 ∧ s.2 ≤ (l.length : Int) ∧ s.1.length = l.length ∧ ∀ j : Int, 0 ≤ j → j < s.2 → s.1.getD j.toNat z99 = cvEvent (l.getD j.toNat z103)) (fun _ r => r = l.map cvEvent) ?_
  · exact key (List.replicate (l.length : Int).toNat z99, 0) ⟨Int.le_refl _, by dsimp only; omega, by simp, fun j h0 h1 => by dsimp only at h1; omega⟩
  · rintro ⟨ys, i⟩ ⟨h0, h1, h2, h3⟩ ih
    dsimp only at h0 h1 h2 h3
    simp only [laws_toEventS.l0, laws_toEvent.f, Option.bind_some]
    refine tite (fun c => ?_) (fun c => ?_)
    · refine tpos h0 (tpos (by omega) ?_)
      rw [wrap64_id (by omega) (by omega)]
      refine ih (_, i + 1) ⟨by dsimp only; omega, by dsimp only; omega, by simp [h2], ?_⟩ (by dsimp only; omega)
      intro j hj0 hj1
      dsimp only at hj1 ⊢
      by_cases e : j = i
      · subst e; rw [ld_set_self _ _ (by omega) hj0]; rfl
      · rw [ld_set_ne _ _ _ h0 hj0 (by omega)]; exact h3 j hj0 (by omega)
    · exact tsome (write_end h2 (fun j a b => h3 j a (by omega)))

theorem eqEventS (l : List S99) (hl : l.length ≤ 1048576) : Tot (fun k => laws_eqEventS.f k l l) (fun r => r = true) := by
  unfold laws_eqEventS.f
  refine tpos rfl ?_
  refine trec (σ := Int) (fun i k => laws_eqEventS.l0 k l l i) (fun i => ((l.length : Int) - i).toNat) (fun i => 0 ≤ i ∧ i ≤ (l.length : Int)) (fun _ r => r = true) ?_ 0 ⟨Int.le_refl _, by omega⟩
  rintro i ⟨h0, h1⟩ ih
  simp only [laws_eqEventS.l0, laws_eqEvent.f, if_true, Option.bind_some]
  refine tite (fun c => ?_) (fun c => tsome rfl)
  refine tpos h0 (tpos (by omega) ?_)
  rw [wrap64_id (by omega) (by omega)]
  exact ih (i + 1) ⟨by omega, by omega⟩ (by (try dsimp only); omega)

theorem szEventS (l : List S103) (n : Int) (hn : 0 ≤ n) (hn2 : n ≤ 1048576) (hl : l.length ≤ 9223372036854775807) : laws_szEventS.f l n = some (if n < l.length then -1 else n - l.length) := by
  unfold laws_szEventS.f
  simp (disch := omega) only [wrap64_id]
  by_cases h : n < l.length
  · rw [if_pos (by omega), if_pos h]
  · rw [if_neg (by omega), if_neg h]

def mkEvent (j : Int) (n : Nat) : List S99 := (List.range n).map fun i : Nat => (⟨j + 3 * (i : Int) + 0, j + 3 * (i : Int) + 1, j + 3 * (i : Int) + 2⟩ : S99)
theorem mkEvent_at (j : Int) (n : Nat) (i : Int) (h0 : 0 ≤ i) (h : i < n) : rd_T99 (mkEvent j n) i = ⟨j + 3 * i + 0, j + 3 * i + 1, j + 3 * i + 2⟩ := by
  obtain ⟨m, rfl⟩ := Int.eq_ofNat_of_zero_le h0
  have hm : m < n := by omega
  unfold rd_T99 mkEvent
  simp [List.getD, hm]
theorem markEventS (l : List S99) (j : Int) (hl : l.length ≤ 1048576) (hj : 0 ≤ j) (hj2 : j ≤ 1125899906842624) : Tot (fun k => laws_markEventS.f k l j) (fun r => r = (j + 3 * (l.length : Int), mkEvent j l.length)) := by
  unfold laws_markEventS.f
  have key := trec (σ := List S99 × Int) (fun s k => laws_markEventS.l0 k s.1 (j + 3 * s.2) s.2) (fun s => ((l.length : Int) - s.2).toNat)
    (fun s => 0 ≤ s.2 ∧ s.2 ≤ (l.length : Int) ∧ s.1.length = l.length ∧ ∀ i : Int, 0 ≤ i → i < s.2 → rd_T99 s.1 i = rd_T99 (mkEvent j l.length) i) (fun _ r => r = (j + 3 * (l.length : Int), mkEvent j l.length)) ?_
  · have h := key (l, 0) ⟨Int.le_refl _, by dsimp only; omega, rfl, fun i h0 h1 => by dsimp only at h1; omega⟩
    simpa using h
  · rintro ⟨ys, i⟩ ⟨h0, h1, h2, h3⟩ ih
    dsimp only at h0 h1 h2 h3
    simp only [laws_markEventS.l0, Option.bind_some]
    refine tite (fun c => ?_) (fun c => ?_)
    · refine tpos h0 ?_
      have hi : i.toNat < ys.length := by omega
      have e : ∀ x : S99, rd_T99 (ys.set i.toNat x) i = x := fun x => by
        unfold rd_T99; exact ld_set_self x i (by omega) h0
      simp only [e, List.set_set, wrap64_id (x := j + 3 * i + 1) (by omega) (by omega), wrap64_id (x := j + 3 * i + 1 + 1) (by omega) (by omega), wrap64_id (x := j + 3 * i + 1 + 1 + 1) (by omega) (by omega)]
      rw [show j + 3 * i + 1 + 1 + 1 = j + 3 * (i + 1) by omega, wrap64_id (x := i + 1) (by omega) (by omega)]
      refine ih (_, i + 1) ⟨by dsimp only; omega, by dsimp only; omega, by simp [h2], ?_⟩ (by dsimp only; omega)
      intro p p0 p1
      dsimp only at p1 ⊢
      by_cases ep : p = i
      · subst ep
        rw [e, mkEvent_at j _ p p0 (by omega)]
        congr 1 <;> omega
      · unfold rd_T99
        rw [ld_set_ne _ _ _ h0 p0 (by omega)]
        exact h3 p p0 (by omega)
    · obtain rfl : i = (l.length : Int) := by omega
      refine tsome ?_
      congr 1
      refine ld_ext (z := z99) (by simp [mkEvent, h2]) (fun p p0 p1 => ?_)
      exact h3 p p0 (by omega)
theorem heldEventS (j : Int) (n : Nat) (hn : n ≤ 1048576) (hj : 0 ≤ j) (hj2 : j ≤ 1125899906842624) : Tot (fun k => laws_heldEventS.f k (mkEvent j n) j) (fun r => r = j + 3 * (n : Int)) := by
  unfold laws_heldEventS.f
  have hlen : ((mkEvent j n).length : Int) = n := by simp [mkEvent]
  have key := trec (σ := Int) (fun i k => laws_heldEventS.l0 k (mkEvent j n) (j + 3 * i) i) (fun i => ((n : Int) - i).toNat) (fun i => 0 ≤ i ∧ i ≤ (n : Int)) (fun _ r => r = j + 3 * (n : Int)) ?_ 0 ⟨Int.le_refl _, by omega⟩
  · simpa using key
  · rintro i ⟨h0, h1⟩ ih
    simp only [laws_heldEventS.l0, hlen]
    refine tite (fun c => ?_) (fun c => ?_)
    · refine tpos h0 ?_
      simp only [mkEvent_at j n i h0 c]
      simp only [wrap64_id (x := j + 3 * i + 1) (by omega) (by omega), wrap64_id (x := j + 3 * i + 1 + 1) (by omega) (by omega), wrap64_id (x := j + 3 * i + 1 + 1 + 1) (by omega) (by omega)]
      refine tpos (by first | trivial | omega) ?_
      refine tpos (by first | trivial | omega) ?_
      refine tpos (by first | trivial | omega) ?_
      rw [show j + 3 * i + 1 + 1 + 1 = j + 3 * (i + 1) by omega, wrap64_id (x := i + 1) (by omega) (by omega)]
      exact ih (i + 1) ⟨by omega, by omega⟩ (by (try dsimp only); omega)
    · exact tsome (by omega)

theorem ntPitch_eq (a : Int) : spec_ntPitch.f a = some (decide (24 ≤ a ∧ a ≤ 96)) := by
  unfold spec_ntPitch.f
  simp only [l1In_eq, Option.bind_some]

theorem gcd_step (a b : Int) (ha : 0 ≤ a) (hb : 0 < b) : 0 ≤ Int.tmod a b ∧ Int.tmod a b < b ∧ Nat.gcd b.toNat (Int.tmod a b).toNat = Nat.gcd a.toNat b.toNat := by
  obtain ⟨m, rfl⟩ := Int.eq_ofNat_of_zero_le ha
  obtain ⟨n, rfl⟩ := Int.eq_ofNat_of_zero_le (Int.le_of_lt hb)
  have e : Int.tmod (m : Int) (n : Int) = ((m % n : Nat) : Int) := rfl
  rw [e]
  have h1 : m % n < n := Nat.mod_lt _ (by omega)
  refine ⟨by omega, by omega, ?_⟩
  simp only [Int.toNat_natCast]
  rw [Nat.gcd_comm m n, Nat.gcd_rec n m, Nat.gcd_comm]
theorem gcd_tot (a b : Int) (ha : 0 ≤ a) (hb : 0 ≤ b) : Tot (fun k => impl_gcd.f k a b) (fun r => r = (Nat.gcd a.toNat b.toNat : Int)) := by
  unfold impl_gcd.f
  refine trec (σ := Int × Int) (fun s k => impl_gcd.l0 k s.1 s.2) (fun s => s.2.toNat) (fun s => 0 ≤ s.1 ∧ 0 ≤ s.2 ∧ Nat.gcd s.1.toNat s.2.toNat = Nat.gcd a.toNat b.toNat) (fun _ r => r = (Nat.gcd a.toNat b.toNat : Int)) ?_ (a, b) ⟨ha, hb, rfl⟩
  rintro ⟨x, y⟩ ⟨hx, hy, hg⟩ ih
  dsimp only at hx hy hg
  simp only [impl_gcd.l0]
  refine tite (fun c => tsome ?_) (fun c => ?_)
  · subst c
    rw [← hg]
    simp
    omega
  · obtain ⟨h1, h2, h3⟩ := gcd_step x y hx (by omega)
    exact ih (y, Int.tmod x y) ⟨hy, h1, by dsimp only; rw [h3, hg]⟩ (by dsimp only; omega)
theorem gcd_pos (a b : Int) (hb : 0 < b) : 0 < (Nat.gcd a.toNat b.toNat : Int) := by
  have : 0 < Nat.gcd a.toNat b.toNat := Nat.gcd_pos_of_pos_right _ (by omega)
  omega
theorem tdiv_eq (a g : Int) (ha : 0 ≤ a) (ha2 : a ≤ 4611686018427387904) (hg : 0 < g) : wrap64 (Int.tdiv a g) = a / g := by
  rw [Int.tdiv_eq_ediv_of_nonneg ha]
  have h1 : 0 ≤ a / g := Int.ediv_nonneg ha (by omega)
  have h2 : a / g ≤ a := Int.ediv_le_self _ ha
  exact wrap64_id (by omega) (by omega)

theorem lowest_tot (a b : Int) (ha : 0 ≤ a) (ha2 : a ≤ 4611686018427387904) (hb : 0 < b) (hb2 : b ≤ 4611686018427387904) : Tot (fun k => impl_lowest.f k a b) (fun r => r = (a / (Nat.gcd a.toNat b.toNat : Int), b / (Nat.gcd a.toNat b.toNat : Int))) := by
  unfold impl_lowest.f
  refine tbind (gcd_tot a b ha (by omega)) (fun _ e => ?_); subst e
  have hg := gcd_pos a b hb
  refine tneg (by omega) ?_
  exact tsome (by rw [tdiv_eq a _ ha ha2 hg, tdiv_eq b _ (by omega) hb2 hg])

theorem noPart_tot (a b : Int) (ha : 0 ≤ a) (ha2 : a ≤ 4611686018427387904) (hb : 0 < b) (hb2 : b ≤ 4611686018427387904) : Tot (fun k => spec_noPart.f k a b) (fun r => r = (a / (Nat.gcd a.toNat b.toNat : Int), b / (Nat.gcd a.toNat b.toNat : Int))) := by
  unfold spec_noPart.f
  have habs : spec_l1Abs.f a = some a := by
    unfold spec_l1Abs.f spec_l1Most.f
    rw [wrap64_id (by omega) (by omega)]
    by_cases h : a > -a
    · rw [if_pos h]; rfl
    · rw [if_neg h]
      have : -a = a := by omega
      rw [this]; rfl
  rw [habs]
  simp only [Option.bind_some]
  have hg := gcd_pos a b hb
  refine trec (σ := Int × Int) (fun s k => spec_noPart.l0 k a b s.1 s.2) (fun s => s.2.toNat) (fun s => 0 ≤ s.1 ∧ 0 ≤ s.2 ∧ Nat.gcd s.1.toNat s.2.toNat = Nat.gcd a.toNat b.toNat) (fun _ r => r = (a / (Nat.gcd a.toNat b.toNat : Int), b / (Nat.gcd a.toNat b.toNat : Int))) ?_ (a, b) ⟨ha, by dsimp only; omega, rfl⟩
  rintro ⟨x, y⟩ ⟨hx, hy, hgx⟩ ih
  dsimp only at hx hy hgx
  simp only [spec_noPart.l0]
  refine tite (fun c => ?_) (fun c => ?_)
  · refine tneg (by omega) ?_
    obtain ⟨h1, h2, h3⟩ := gcd_step x y hx c
    exact ih (y, Int.tmod x y) ⟨hy, h1, by dsimp only; rw [h3, hgx]⟩ (by dsimp only; omega)
  · obtain rfl : y = 0 := by omega
    have e : x = (Nat.gcd a.toNat b.toNat : Int) := by
      rw [← hgx]; simp; omega
    refine tneg (by omega) ?_
    exact tsome (by rw [e, tdiv_eq a _ ha ha2 hg, tdiv_eq b _ (by omega) hb2 hg])

def OkEvent (a b c : Int) : Prop := (a = 0 ∨ (24 ≤ a ∧ a ≤ 96)) ∧ (1 ≤ b ∧ b ≤ 99) ∧ (1 ≤ c ∧ c ≤ 16) ∧ Nat.gcd b.toNat c.toNat = 1
theorem div_one {b g : Int} (hb : 0 < b) (hg : 0 < g) : b / g = b ↔ g = 1 := by
  constructor
  · intro h
    by_cases h1 : 1 < g
    · have h2 : b / g < b := by
        apply Int.ediv_lt_of_lt_mul hg
        have : b * 2 ≤ b * g := Int.mul_le_mul_of_nonneg_left (by omega) (by omega)
        omega
      omega
    · omega
  · intro h; subst h; simp
theorem noEvent_tot (a b c : Int) : Tot (fun k => spec_noEvent.f k a b c) (fun r => (r = true) ↔ OkEvent a b c) := by
  have hF : ¬ OkEvent a b c → Tot (fun _ => some false) (fun r => (r = true) ↔ OkEvent a b c) := fun h => tsome ⟨(fun g => by simp at g), (fun g => absurd g h)⟩
  have hT : (a = 0 ∨ (24 ≤ a ∧ a ≤ 96)) → (1 ≤ b ∧ b ≤ 99) → (1 ≤ c ∧ c ≤ 16) → Tot (fun k => (spec_noPart.f k b c).bind fun r => some (r.2 == c)) (fun r => (r = true) ↔ OkEvent a b c) := by
    intro h1 h2 h3
    refine tbind (noPart_tot b c (by omega) (by omega) (by omega) (by omega)) (fun _ e => ?_); subst e
    refine tsome ?_
    dsimp only
    rw [beq_iff_eq, div_one (by omega) (gcd_pos b c (by omega))]
    exact ⟨fun h => ⟨h1, h2, h3, by omega⟩, fun h => by have := h.2.2.2; omega⟩
  unfold spec_noEvent.f
  simp only [ntPitch_eq, l1In_eq, Option.bind_some, decide_eq_true_eq]
  refine tite (fun c0 => ?_) (fun c0 => tite (fun c1 => ?_) (fun c1 => hF (fun h => by have := h.1; omega)))
  all_goals
    refine tite (fun c2 => ?_) (fun c2 => hF (fun h => c2 h.2.1))
    refine tite (fun c3 => ?_) (fun c3 => hF (fun h => c3 h.2.2.1))
  · exact hT (.inl c0) c2 c3
  · exact hT (.inr c1) c2 c3
theorem implIsPitch_eq (a : Int) : impl_isPitch.f a = some (decide (24 ≤ a ∧ a ≤ 96)) := by
  unfold impl_isPitch.f
  by_cases h : 24 ≤ a <;> simp [h]
theorem isEvent_tot (a b c : Int) : Tot (fun k => impl_isEvent.f k a b c) (fun r => (r = true) ↔ OkEvent a b c) := by
  have hF : ¬ OkEvent a b c → Tot (fun _ => some false) (fun r => (r = true) ↔ OkEvent a b c) := fun h => tsome ⟨(fun g => by simp at g), (fun g => absurd g h)⟩
  have hT : (a = 0 ∨ (24 ≤ a ∧ a ≤ 96)) → 1 ≤ b → b ≤ 99 → 1 ≤ c → c ≤ 16 → Tot (fun k => (impl_gcd.f k b c).bind fun r => some (r == 1)) (fun r => (r = true) ↔ OkEvent a b c) := by
    intro h1 h2 h3 h4 h5
    refine tbind (gcd_tot b c (by omega) (by omega)) (fun _ e => ?_); subst e
    refine tsome ?_
    rw [beq_iff_eq]
    exact ⟨fun h => ⟨h1, ⟨h2, h3⟩, ⟨h4, h5⟩, by omega⟩, fun h => by have := h.2.2.2; omega⟩
  unfold impl_isEvent.f
  simp only [implIsPitch_eq, Option.bind_some, decide_eq_true_eq]
  refine tite (fun c0 => ?_) (fun c0 => tite (fun c1 => ?_) (fun c1 => hF (fun h => by have := h.1; omega)))
  all_goals
    refine tite (fun c2 => ?_) (fun c2 => hF (fun h => by have := h.2.1; omega))
    refine tite (fun c3 => ?_) (fun c3 => hF (fun h => by have := h.2.1; omega))
    refine tite (fun c4 => ?_) (fun c4 => hF (fun h => by have := h.2.2.1; omega))
    refine tite (fun c5 => ?_) (fun c5 => hF (fun h => by have := h.2.2.1; omega))
  · exact hT (.inl c0) c2 c3 c4 c5
  · exact hT (.inr c1) c2 c3 c4 c5
def VoC (l : List S99) (j : Int) : Prop := OkEvent (rd_T99 l j).f0 (rd_T99 l j).f1 (rd_T99 l j).f2
def VoGood (l : List S99) : Prop := (∀ j : Int, 0 ≤ j → j < (l.length : Int) → VoC l j) ∧ (l.length : Int) ≤ 20

theorem spec_noGood_tot (l : List S99) (hl : l.length ≤ 1048576) : Tot (fun k => spec_noGood.f k l) (fun b => (b = true) ↔ VoGood l) := by
  unfold spec_noGood.f
  refine trec (σ := Int) (fun i k => spec_noGood.l0 k l l (l.length : Int) i) (fun i => ((l.length : Int) - i).toNat) (fun i => 0 ≤ i ∧ i ≤ (l.length : Int))
    (fun i b => (b = true) ↔ ((∀ j : Int, i ≤ j → j < (l.length : Int) → VoC l j) ∧ (l.length : Int) ≤ 20)) ?_ 0 ⟨Int.le_refl _, by omega⟩
  rintro i ⟨h0, h1⟩ ih
  simp only [spec_noGood.l0]
  refine tite (fun c => ?_) (fun c => tsome (all_end c (by simp only [decide_eq_true_eq])))
  refine tpos h0 (tpos c ?_)
  refine tbind (noEvent_tot _ _ _) (fun b hb => ?_)
  refine tite (fun c2 => ?_) (fun c2 => tsome (all_no c (fun h => c2 (hb.2 h))))
  rw [wrap64_id (by omega) (by omega)]
  exact tmono (ih (i + 1) ⟨by omega, by omega⟩ (by (try dsimp only); omega)) (fun b2 hb2 => all_go c (hb.1 c2) hb2)

theorem impl_IsVoice_tot (l : List S99) (hl : l.length ≤ 1048576) : Tot (fun k => impl_IsVoice.f k l) (fun b => (b = true) ↔ VoGood l) := by
  unfold impl_IsVoice.f
  refine trec (σ := Int) (fun i k => impl_IsVoice.l0 k l l (l.length : Int) i) (fun i => ((l.length : Int) - i).toNat) (fun i => 0 ≤ i ∧ i ≤ (l.length : Int))
    (fun i b => (b = true) ↔ ((∀ j : Int, i ≤ j → j < (l.length : Int) → VoC l j) ∧ (l.length : Int) ≤ 20)) ?_ 0 ⟨Int.le_refl _, by omega⟩
  rintro i ⟨h0, h1⟩ ih
  simp only [impl_IsVoice.l0]
  refine tite (fun c => ?_) (fun c => tsome (all_end c (by simp only [decide_eq_true_eq])))
  refine tpos h0 (tpos c ?_)
  refine tbind (isEvent_tot _ _ _) (fun b hb => ?_)
  refine tite (fun c2 => ?_) (fun c2 => tsome (all_no c (fun h => c2 (hb.2 h))))
  rw [wrap64_id (by omega) (by omega)]
  exact tmono (ih (i + 1) ⟨by omega, by omega⟩ (by (try dsimp only); omega)) (fun b2 hb2 => all_go c (hb.1 c2) hb2)

theorem l1Most_eq (a b : Int) : spec_l1Most.f a b = some (mx a b) := by
  unfold spec_l1Most.f mx
  by_cases h : a > b
  · rw [if_pos h, if_neg (by omega)]
  · rw [if_neg h]
    by_cases h2 : a < b
    · rw [if_pos h2]
    · rw [if_neg h2]
      congr 1; omega

def voT (l : List S99) : Nat → Nat
  | 0 => 0
  | i + 1 => voT l i + (rd_T99 l i).f1.toNat * (720720 / (rd_T99 l i).f2.toNat)
theorem den_div (d : Nat) (h0 : 1 ≤ d) (h : d ≤ 16) : 720720 / d * d = 720720 := by
  have key : ∀ d : Nat, d < 17 → 0 < d → 720720 / d * d = 720720 := by decide
  exact key d (by omega) (by omega)
theorem den_le (d : Nat) : 720720 / d ≤ 720720 := Nat.div_le_self _ _
structure EvN (l : List S99) (i n d : Nat) : Prop where
  num : (rd_T99 l i).f1 = (n : Int)
  den : (rd_T99 l i).f2 = (d : Int)
  n1 : 1 ≤ n
  n2 : n ≤ 99
  d1 : 1 ≤ d
  d2 : d ≤ 16
theorem evN {l : List S99} {i : Nat} (h : VoC l i) : ∃ n d, EvN l i n d := by
  unfold VoC OkEvent at h
  exact ⟨(rd_T99 l i).f1.toNat, (rd_T99 l i).f2.toNat, ⟨by omega, by omega, by omega, by omega, by omega, by omega⟩⟩
theorem voT_succ {l : List S99} {i n d : Nat} (h : EvN l i n d) : voT l (i + 1) = voT l i + n * (720720 / d) := by
  conv => lhs; unfold voT
  rw [h.num, h.den, Int.toNat_natCast, Int.toNat_natCast]
def VoAll (l : List S99) : Prop := ∀ j : Int, 0 ≤ j → j < (l.length : Int) → VoC l j
theorem mul99 {n x : Nat} (hn : n ≤ 99) (hx : x ≤ 720720) : n * x ≤ 71351280 := by
  have h1 : n * x ≤ 99 * x := Nat.mul_le_mul_right _ hn
  omega
theorem voT_le {l : List S99} (hv : VoAll l) (i : Nat) (hi : i ≤ l.length) : voT l i ≤ i * 71351280 := by
  induction i with
  | zero => simp [voT]
  | succ i ih =>
    obtain ⟨n, d, h⟩ := evN (hv i (by omega) (by omega))
    rw [voT_succ h]
    have := ih (by omega)
    have := mul99 h.n2 (den_le d)
    omega
theorem rd_take {l : List S99} (i j : Nat) (h : j < i) : rd_T99 (l.take i) (j : Int) = rd_T99 l (j : Int) := by
  unfold rd_T99
  exact ld_take i (j : Int) (by omega) (by omega)
theorem voT_take {l : List S99} (i j : Nat) (h : j ≤ i) : voT (l.take i) j = voT l j := by
  induction j with
  | zero => rfl
  | succ j ih =>
    unfold voT
    rw [ih (by omega), rd_take i j (by omega)]
theorem VoAll.take {l : List S99} (hv : VoAll l) (i : Nat) : VoAll (l.take i) := by
  intro j h0 h1
  obtain ⟨m, rfl⟩ := Int.eq_ofNat_of_zero_le h0
  simp at h1
  have := hv m h0 (by omega)
  unfold VoC at this ⊢
  rw [rd_take i m (by omega)]
  exact this
/-- A fraction in lowest terms. -/
def low (p q : Nat) : Int × Int := (((p / Nat.gcd p q : Nat) : Int), ((q / Nat.gcd p q : Nat) : Int))
theorem low_eq (p q : Nat) : ((p : Int) / (Nat.gcd (p : Int).toNat (q : Int).toNat : Int), (q : Int) / (Nat.gcd (p : Int).toNat (q : Int).toNat : Int)) = low p q := by
  unfold low
  simp only [Int.toNat_natCast, Int.natCast_ediv]
theorem low_scale (p q s : Nat) (hs : 0 < s) : low (p * s) (q * s) = low p q := by
  unfold low
  rw [Nat.gcd_mul_right, Nat.mul_div_mul_right _ _ hs, Nat.mul_div_mul_right _ _ hs]
theorem low_unique {p q r s : Nat} (hq : 0 < q) (hs : 0 < s) (h : p * s = r * q) : low p q = low r s := by
  rw [← low_scale p q s hs, ← low_scale r s q hq, h, Nat.mul_comm q s]
structure LowN (p q a b g : Nat) : Prop where
  e : low p q = ((a : Int), (b : Int))
  p : p = a * g
  q : q = b * g
  g : 0 < g
theorem lowN (p q : Nat) (hq : 0 < q) : ∃ a b g, LowN p q a b g := by
  have hg : 0 < Nat.gcd p q := Nat.gcd_pos_of_pos_right _ hq
  exact ⟨p / Nat.gcd p q, q / Nat.gcd p q, Nat.gcd p q, ⟨rfl, (Nat.div_mul_cancel (Nat.gcd_dvd_left p q)).symm, (Nat.div_mul_cancel (Nat.gcd_dvd_right p q)).symm, hg⟩⟩
theorem LowN.b_pos {p q a b g : Nat} (h : LowN p q a b g) (hq : 0 < q) : 0 < b := by
  rcases Nat.eq_zero_or_pos b with h0 | h0
  · have := h.q
    rw [h0, Nat.zero_mul] at this
    omega
  · exact h0
theorem LowN.le {p q a b g : Nat} (h : LowN p q a b g) : a ≤ p ∧ b ≤ q := by
  have h1 : a * 1 ≤ a * g := Nat.mul_le_mul_left _ h.g
  have h2 : b * 1 ≤ b * g := Nat.mul_le_mul_left _ h.g
  rw [h.p, h.q]
  omega
theorem low_step {t a b g n d : Nat} (h : LowN t 720720 a b g) (hd1 : 1 ≤ d) (hd2 : d ≤ 16) : low (a * d + n * b) (b * d) = low (t + n * (720720 / d)) 720720 := by
  have hb := h.b_pos (by omega)
  refine low_unique (Nat.mul_pos hb (by omega)) (by omega) ?_
  have hw := h.q
  have hdd := den_div d hd1 hd2
  obtain ⟨x, hx⟩ : ∃ x, x = 720720 / d := ⟨_, rfl⟩
  rw [← hx] at hdd ⊢
  rw [h.p]
  calc (a * d + n * b) * 720720 = a * d * 720720 + n * b * 720720 := Nat.add_mul _ _ _
    _ = a * d * (b * g) + n * b * (x * d) := by rw [← hw, hdd]
    _ = a * g * (b * d) + n * x * (b * d) := by
      congr 1
      · ac_rfl
      · ac_rfl
    _ = (a * g + n * x) * (b * d) := (Nat.add_mul _ _ _).symm
theorem noPartN_tot (p q : Nat) (hp : p ≤ 4611686018427387904) (hq : 0 < q) (hq2 : q ≤ 4611686018427387904) (x y : Int) (hx : x = (p : Int)) (hy : y = (q : Int)) : Tot (fun k => spec_noPart.f k x y) (fun r => r = low p q) := by
  subst hx; subst hy
  have := noPart_tot (p : Int) (q : Int) (by omega) (by omega) (by omega) (by omega)
  rw [low_eq] at this
  exact this

theorem lowestN_tot (p q : Nat) (hp : p ≤ 4611686018427387904) (hq : 0 < q) (hq2 : q ≤ 4611686018427387904) (x y : Int) (hx : x = (p : Int)) (hy : y = (q : Int)) : Tot (fun k => impl_lowest.f k x y) (fun r => r = low p q) := by
  subst hx; subst hy
  have := lowest_tot (p : Int) (q : Int) (by omega) (by omega) (by omega) (by omega)
  rw [low_eq] at this
  exact this

theorem noSum_tot (l : List S99) (hv : VoAll l) (hl : l.length ≤ 20) : Tot (fun k => spec_noSum.f k l) (fun r => r = low (voT l l.length) 720720) := by
  unfold spec_noSum.f
  have key := trec (σ := Nat) (fun i k => spec_noSum.l0 k (low (voT l i) 720720).1 (low (voT l i) 720720).2 l (l.length : Int) (i : Int)) (fun i => l.length - i) (fun i => i ≤ l.length) (fun _ r => r = low (voT l l.length) 720720) ?_ 0 (Nat.zero_le _)
  · have e : low (voT l 0) 720720 = (0, 1) := by simp [low, voT]
    rw [e] at key
    exact key
  · intro i hi ih
    obtain ⟨a, b, g, h⟩ := lowN (voT l i) 720720 (by omega)
    have hb := h.b_pos (by omega)
    have hle := h.le
    have ht := voT_le hv i hi
    rw [h.e]
    simp only [spec_noSum.l0, wrap64_id (x := (i : Int) + 1) (by omega) (by omega)]
    refine tite (fun c => ?_) (fun c => tsome (by rw [show l.length = i by omega, h.e]))
    refine tpos (by omega) (tpos c ?_)
    obtain ⟨n, d, hn⟩ := evN (hv i (by omega) c)
    rw [hn.num, hn.den]
    have hd := hn.d2
    have hn2 := hn.n2
    have b1 : a * d ≤ 1427025600 * 16 := Nat.mul_le_mul (by omega) hd
    have b2 : n * b ≤ 99 * 720720 := Nat.mul_le_mul hn2 (by omega)
    have b3 : b * d ≤ 720720 * 16 := Nat.mul_le_mul (by omega) hd
    have e1 : (a : Int) * (d : Int) = ((a * d : Nat) : Int) := by simp
    have e2 : (n : Int) * (b : Int) = ((n * b : Nat) : Int) := by simp
    have e3 : (b : Int) * (d : Int) = ((b * d : Nat) : Int) := by simp
    rw [e1, e2, e3, wrap64_id (x := ((a * d : Nat) : Int)) (by omega) (by omega), wrap64_id (x := ((n * b : Nat) : Int)) (by omega) (by omega), wrap64_id (x := ((b * d : Nat) : Int)) (by omega) (by omega), wrap64_id (x := ((a * d : Nat) : Int) + ((n * b : Nat) : Int)) (by omega) (by omega)]
    refine tbind (noPartN_tot (a * d + n * b) (b * d) (by omega) (Nat.mul_pos hb hn.d1) (by omega) _ _ (by omega) rfl) (fun _ e => ?_); subst e
    rw [low_step h hn.d1 hn.d2, ← voT_succ hn]
    have := ih (i + 1) (by omega) (by omega)
    simpa using this
theorem noSumTake_tot (l : List S99) (hv : VoAll l) (hl : l.length ≤ 20) (i : Nat) (hi : i ≤ l.length) : Tot (fun k => spec_noSum.f k (l.take i)) (fun r => r = low (voT l i) 720720) := by
  have h := noSum_tot (l.take i) (hv.take i) (by simp; omega)
  rw [show (l.take i).length = i by simp; omega, voT_take i i (Nat.le_refl _)] at h
  exact h

theorem take_succ_map {α β : Type} (z : α) (f : α → β) (l : List α) (i : Nat) (h : i < l.length) : (l.take (i + 1)).map f = (l.take i).map f ++ [f (l.getD i z)] := by
  rw [List.take_succ_eq_append_getElem h, List.map_append]
  simp [List.getD, h]

theorem noIf_tot (l : List S99) (hl : l.length ≤ 1048576) : Tot (fun k => spec_noIf.f k l) (fun r => (VoGood l ∧ r = (l, true)) ∨ (¬ VoGood l ∧ r = ([], false))) := by
  unfold spec_noIf.f
  exact tbind (spec_noGood_tot l hl) (fun b hb => tite (fun c => tsome (.inl ⟨hb.1 c, rfl⟩)) (fun c => tsome (.inr ⟨fun h => c (hb.2 h), rfl⟩)))

theorem voiceOf_tot (l : List S99) (hl : l.length ≤ 1048576) : Tot (fun k => impl_voiceOf.f k l) (fun r => (VoGood l ∧ r = (l, true)) ∨ (¬ VoGood l ∧ r = ([], false))) := by
  unfold impl_voiceOf.f
  exact tbind (impl_IsVoice_tot l hl) (fun b hb => tite (fun c => tsome (.inl ⟨hb.1 c, rfl⟩)) (fun c => tsome (.inr ⟨fun h => c (hb.2 h), rfl⟩)))

def inpl {α : Type} (f : α → α) (l : List α) (i : Nat) : List α := (l.take i).map f ++ l.drop i
theorem inpl_len {α : Type} (f : α → α) (l : List α) (i : Nat) (h : i ≤ l.length) : (inpl f l i).length = l.length := by
  unfold inpl; simp; omega
theorem inpl_zero {α : Type} (f : α → α) (l : List α) : inpl f l 0 = l := by simp [inpl]
theorem inpl_end {α : Type} (f : α → α) (l : List α) : inpl f l l.length = l.map f := by simp [inpl]
theorem inpl_at {α : Type} (z : α) (f : α → α) (l : List α) (i : Nat) (h : i < l.length) : (inpl f l i).getD i z = l.getD i z := by
  unfold inpl
  have h1 : ((l.take i).map f).length = i := by simp; omega
  rw [List.getD, List.getElem?_append_right (by omega), h1, Nat.sub_self]
  simp [List.getD, h]
theorem inpl_set {α : Type} (z : α) (f : α → α) (l : List α) (i : Nat) (h : i < l.length) : (inpl f l i).set i (f (l.getD i z)) = inpl f l (i + 1) := by
  unfold inpl
  have h1 : ((l.take i).map f).length = i := by simp; omega
  rw [List.set_append_right _ _ (by omega), h1, Nat.sub_self, List.drop_eq_getElem_cons h, List.set_cons_zero, List.take_succ_eq_append_getElem h, List.map_append, List.append_assoc]
  simp [List.getD, h]
theorem take_up {α β : Type} (z : α) (f : α → β) (l : List α) (i : Nat) (h : i < l.length) : (l.take (i + 1)).map f = (l.take i).map f ++ [f (l.getD i z)] := by
  rw [List.take_succ_eq_append_getElem h, List.map_append]
  simp [List.getD, h]

def lastE (o : List S99) : S99 := rd_T99 o ((o.length : Int) - 1)
def mgE (x y : S99) : S99 := ⟨0, (low (x.f1.toNat * y.f2.toNat + y.f1.toNat * x.f2.toNat) (x.f2.toNat * y.f2.toNat)).1, (low (x.f1.toNat * y.f2.toNat + y.f1.toNat * x.f2.toNat) (x.f2.toNat * y.f2.toNat)).2⟩
def mgNow (o : List S99) (x : S99) : Prop := x.f0 = 0 ∧ o.length ≠ 0 ∧ (lastE o).f0 = 0
instance (o : List S99) (x : S99) : Decidable (mgNow o x) := by unfold mgNow; exact inferInstance
def mgUpto (l : List S99) : Nat → List S99
  | 0 => []
  | i + 1 => if mgNow (mgUpto l i) (rd_T99 l i) then (mgUpto l i).set ((mgUpto l i).length - 1) (mgE (lastE (mgUpto l i)) (rd_T99 l i)) else mgUpto l i ++ [rd_T99 l i]
theorem mgUpto_len (l : List S99) (i : Nat) : (mgUpto l i).length ≤ i := by
  induction i with
  | zero => simp [mgUpto]
  | succ i ih => unfold mgUpto; split <;> (try simp) <;> omega
theorem lastE_app (o : List S99) (x : S99) : lastE (o ++ [x]) = x := by
  unfold lastE rd_T99
  exact ld_append_last _ (by simp)
theorem lastE_set (o : List S99) (x : S99) (h : o.length ≠ 0) : lastE (o.set (o.length - 1) x) = x := by
  unfold lastE rd_T99
  rw [List.length_set]
  have := ld_set_self (z := z99) (xs := o) x ((o.length : Int) - 1) (by omega) (by omega)
  rwa [show ((o.length : Int) - 1).toNat = o.length - 1 by omega] at this ⊢
/-- What is known of the last one: it is a pitch or a rest whose length is a sum of so many. -/
def LastOk (o : List S99) (i : Nat) : Prop := o.length ≠ 0 → 0 ≤ (lastE o).f0 ∧ ((lastE o).f0 = 0 → ∃ t : Nat, t ≤ i * 71351280 ∧ ((lastE o).f1, (lastE o).f2) = low t 720720)
theorem low_self {n d : Nat} (h : Nat.gcd n d = 1) : low n d = ((n : Int), (d : Int)) := by
  unfold low
  rw [h, Nat.div_one, Nat.div_one]
theorem ev_low {l : List S99} {i n d : Nat} (h : EvN l i n d) (hg : Nat.gcd n d = 1) : ((rd_T99 l i).f1, (rd_T99 l i).f2) = low (n * (720720 / d)) 720720 := by
  rw [h.num, h.den, ← low_self hg]
  refine low_unique (by have := h.d1; omega) (by omega) ?_
  have hd := den_div d h.d1 h.d2
  obtain ⟨q, hq⟩ : ∃ q, q = 720720 / d := ⟨_, rfl⟩
  rw [← hq] at hd ⊢
  rw [Nat.mul_assoc, hd]
theorem evG {l : List S99} {i n d : Nat} (hv : VoC l i) (h : EvN l i n d) : Nat.gcd n d = 1 := by
  unfold VoC OkEvent at hv
  have := hv.2.2.2
  rw [h.num, h.den, Int.toNat_natCast, Int.toNat_natCast] at this
  exact this
theorem lastOk_step {l : List S99} (hg : VoGood l) (i : Nat) (hi : i < l.length) (h : LastOk (mgUpto l i) i) : LastOk (mgUpto l (i + 1)) (i + 1) := by
  obtain ⟨n, d, hn⟩ := evN (hg.1 i (by omega) (by omega))
  have hgc := evG (hg.1 i (by omega) (by omega)) hn
  have hv := hg.1 i (by omega) (by omega)
  unfold VoC OkEvent at hv
  have b1 := mul99 hn.n2 (den_le d)
  unfold mgUpto
  split
  · rename_i c
    obtain ⟨c1, c2, c3⟩ := c
    obtain ⟨_, h2⟩ := h c2
    obtain ⟨t, ht, e⟩ := h2 c3
    intro _
    rw [lastE_set _ _ c2]
    refine ⟨Int.le_refl _, fun _ => ⟨t + n * (720720 / d), by omega, ?_⟩⟩
    obtain ⟨a, b, g, hl⟩ := lowN t 720720 (by omega)
    rw [hl.e] at e
    obtain ⟨e1, e2⟩ := Prod.mk.inj e
    unfold mgE
    dsimp only
    rw [e1, e2, hn.num, hn.den, Int.toNat_natCast, Int.toNat_natCast, Int.toNat_natCast, Int.toNat_natCast, low_step hl hn.d1 hn.d2]
  · intro _
    rw [lastE_app]
    exact ⟨by omega, fun _ => ⟨n * (720720 / d), by omega, ev_low hn hgc⟩⟩
theorem noSumTwo_tot (x y : S99) (t n d : Nat) (ht : t ≤ 1427025600) (hx : (x.f1, x.f2) = low t 720720) (h1 : y.f1 = (n : Int)) (h2 : y.f2 = (d : Int)) (n2 : n ≤ 99) (d1 : 1 ≤ d) (d2 : d ≤ 16) :
    Tot (fun k => spec_noSum.f k [x, y]) (fun r => r = low (x.f1.toNat * y.f2.toNat + y.f1.toNat * x.f2.toNat) (x.f2.toNat * y.f2.toNat)) := by
  obtain ⟨a, b, g, h⟩ := lowN t 720720 (by omega)
  have hb := h.b_pos (by omega)
  have hle := h.le
  have hx0 := hx
  rw [h.e] at hx
  obtain ⟨e1, e2⟩ := Prod.mk.inj hx
  unfold spec_noSum.f
  refine tstep ?_
  simp only [spec_noSum.l0]
  refine tpos (by simp) (tpos (by omega) (tpos (by simp) ?_))
  have r0 : rd_T99 [x, y] 0 = x := rfl
  have r1 : rd_T99 [x, y] (0 + 1) = y := rfl
  rw [r0, e1, e2, Int.zero_mul, Int.mul_one, Int.one_mul, wrap64_id (x := 0) (by omega) (by omega), Int.zero_add, wrap64_id (x := (a : Int)) (by omega) (by omega), wrap64_id (x := (a : Int)) (by omega) (by omega), wrap64_id (x := (b : Int)) (by omega) (by omega), wrap64_id (x := (0 : Int) + 1) (by omega) (by omega)]
  refine tbind (noPartN_tot a b (by omega) hb (by omega) _ _ rfl rfl) (fun _ e => ?_); subst e
  have el : low a b = ((a : Int), (b : Int)) := by
    rw [← low_scale a b g h.g, ← h.p, ← h.q, h.e]
  rw [el]
  refine tstep ?_
  simp only [spec_noSum.l0]
  refine tpos (by simp) (tpos (by omega) (tpos (by simp) ?_))
  have b1 : a * d ≤ 1427025600 * 16 := Nat.mul_le_mul (by omega) d2
  have b2 : n * b ≤ 99 * 720720 := Nat.mul_le_mul n2 (by omega)
  have b3 : b * d ≤ 720720 * 16 := Nat.mul_le_mul (by omega) d2
  have f1 : (a : Int) * (d : Int) = ((a * d : Nat) : Int) := by simp
  have f2 : (n : Int) * (b : Int) = ((n * b : Nat) : Int) := by simp
  have f3 : (b : Int) * (d : Int) = ((b * d : Nat) : Int) := by simp
  rw [r1, h1, h2, f1, f2, f3, wrap64_id (x := ((a * d : Nat) : Int)) (by omega) (by omega), wrap64_id (x := ((n * b : Nat) : Int)) (by omega) (by omega), wrap64_id (x := ((b * d : Nat) : Int)) (by omega) (by omega), wrap64_id (x := ((a * d : Nat) : Int) + ((n * b : Nat) : Int)) (by omega) (by omega)]
  refine tbind (noPartN_tot (a * d + n * b) (b * d) (by omega) (Nat.mul_pos hb d1) (by omega) _ _ (by omega) rfl) (fun _ e => ?_); subst e
  refine tstep ?_
  simp only [spec_noSum.l0]
  refine tneg (by simp [wrap64]) (tsome ?_)
  simp only [Int.toNat_natCast]
def mgPost (o : List S99) (r : List S99 × Bool) : Prop := (VoGood o ∧ r = (o, true)) ∨ (¬ VoGood o ∧ r = ([], false))
theorem mgPost.det {o : List S99} {r r' : List S99 × Bool} (h : mgPost o r) (h' : mgPost o r') : r = r' := by
  rcases h with ⟨x, e⟩ | ⟨x, e⟩ <;> rcases h' with ⟨x', e'⟩ | ⟨x', e'⟩
  · rw [e, e']
  · exact absurd x x'
  · exact absurd x' x
  · rw [e, e']
theorem specMg_tot (l : List S99) (hg : VoGood l) : Tot (fun k => spec_MergeRests.l0 k [] l (l.length : Int) 0) (fun r => mgPost (mgUpto l l.length) r) := by
  have hn : l.length ≤ 20 := by have := hg.2; omega
  refine trec (σ := Nat) (fun i k => spec_MergeRests.l0 k (mgUpto l i) l (l.length : Int) (i : Int)) (fun i => l.length - i) (fun i => i ≤ l.length ∧ LastOk (mgUpto l i) i) (fun _ r => mgPost (mgUpto l l.length) r) ?_ 0 ⟨Nat.zero_le _, fun h => absurd rfl h⟩
  rintro i ⟨hi, hlast⟩ ih
  have hlen := mgUpto_len l i
  simp only [spec_MergeRests.l0, wrap64_id (x := (i : Int) + 1) (by omega) (by omega), wrap64_id (x := ((mgUpto l i).length : Int) - 1) (by omega) (by omega)]
  refine tite (fun c => ?_) (fun c => ?_)
  · refine tpos (by omega) (tpos c ?_)
    have go : ∀ o, o = mgUpto l (i + 1) → Tot (fun k => spec_MergeRests.l0 k o l (l.length : Int) ((i : Int) + 1)) (fun r => mgPost (mgUpto l l.length) r) := fun o e => by
      rw [e]
      have := ih (i + 1) ⟨by omega, lastOk_step hg i (by omega) hlast⟩ (by omega)
      simpa using this
    have hv := hg.1 i (by omega) c
    have hv0 := hv
    unfold VoC OkEvent at hv
    refine tite (fun c1 => tpos (by omega) (go _ (by conv => rhs; unfold mgUpto; rw [if_neg (fun h => h.2.1 (by omega))]))) (fun c1 => ?_)
    obtain ⟨l0, l1⟩ := hlast (by omega)
    refine tite (fun c2 => tpos (by omega) (go _ (by conv => rhs; unfold mgUpto; rw [if_neg (fun h => by have := h.1; omega)]))) (fun c2 => ?_)
    refine tpos (by omega) (tpos (by omega) ?_)
    have el : rd_T99 (mgUpto l i) (((mgUpto l i).length : Int) - 1) = lastE (mgUpto l i) := rfl
    rw [el]
    refine tite (fun c3 => tpos (by omega) (go _ (by conv => rhs; unfold mgUpto; rw [if_neg (fun h => by have := h.2.2; omega)]))) (fun c3 => ?_)
    obtain ⟨t, ht, e⟩ := l1 (by omega)
    obtain ⟨n, d, hN⟩ := evN hv0
    refine tbind (noSumTwo_tot (lastE (mgUpto l i)) (rd_T99 l i) t n d (by omega) e hN.num hN.den hN.n2 hN.d1 hN.d2) (fun _ e2 => ?_); subst e2
    refine go _ ?_
    conv => rhs; unfold mgUpto
    rw [if_pos ⟨by omega, by omega, by omega⟩, show (((mgUpto l i).length : Int) - 1).toNat = (mgUpto l i).length - 1 by omega]
    rfl
  · obtain rfl : i = l.length := by omega
    exact tbind (noIf_tot _ (by omega)) (fun r hr => tsome hr)
theorem implMg_tot (l : List S99) (hg : VoGood l) : Tot (fun k => impl_MergeRests.l0 k [] l (l.length : Int) 0) (fun r => mgPost (mgUpto l l.length) r) := by
  have hn : l.length ≤ 20 := by have := hg.2; omega
  refine trec (σ := Nat) (fun i k => impl_MergeRests.l0 k (mgUpto l i) l (l.length : Int) (i : Int)) (fun i => l.length - i) (fun i => i ≤ l.length ∧ LastOk (mgUpto l i) i) (fun _ r => mgPost (mgUpto l l.length) r) ?_ 0 ⟨Nat.zero_le _, fun h => absurd rfl h⟩
  rintro i ⟨hi, hlast⟩ ih
  have hlen := mgUpto_len l i
  simp only [impl_MergeRests.l0, wrap64_id (x := (i : Int) + 1) (by omega) (by omega), wrap64_id (x := ((mgUpto l i).length : Int) - 1) (by omega) (by omega)]
  refine tite (fun c => ?_) (fun c => ?_)
  · refine tpos (by omega) (tpos c ?_)
    have go : ∀ o, o = mgUpto l (i + 1) → Tot (fun k => impl_MergeRests.l0 k o l (l.length : Int) ((i : Int) + 1)) (fun r => mgPost (mgUpto l l.length) r) := fun o e => by
      rw [e]
      have := ih (i + 1) ⟨by omega, lastOk_step hg i (by omega) hlast⟩ (by omega)
      simpa using this
    refine tite (fun c1 => ?_) (fun c1 => tpos (by omega) (go _ (by conv => rhs; unfold mgUpto; rw [if_neg (fun h => c1 h.1)])))
    refine tite (fun c2 => ?_) (fun c2 => tpos (by omega) (go _ (by conv => rhs; unfold mgUpto; rw [if_neg (fun h => h.2.1 (by omega))])))
    refine tpos (by omega) (tpos (by omega) ?_)
    have el : rd_T99 (mgUpto l i) (((mgUpto l i).length : Int) - 1) = lastE (mgUpto l i) := rfl
    rw [el]
    obtain ⟨l0, l1⟩ := hlast (by omega)
    refine tite (fun c3 => ?_) (fun c3 => tpos (by omega) (go _ (by conv => rhs; unfold mgUpto; rw [if_neg (fun h => c3 h.2.2)])))
    obtain ⟨t, ht, e⟩ := l1 c3
    obtain ⟨a, b, g, h⟩ := lowN t 720720 (by omega)
    have hb := h.b_pos (by omega)
    have hle := h.le
    rw [h.e] at e
    obtain ⟨e1, e2⟩ := Prod.mk.inj e
    obtain ⟨n, d, hN⟩ := evN (hg.1 i (by omega) c)
    have n2 := hN.n2
    have d2 := hN.d2
    have b1 : a * d ≤ 1427025600 * 16 := Nat.mul_le_mul (by omega) d2
    have b2 : n * b ≤ 99 * 720720 := Nat.mul_le_mul n2 (by omega)
    have b3 : b * d ≤ 720720 * 16 := Nat.mul_le_mul (by omega) d2
    have f1 : (a : Int) * (d : Int) = ((a * d : Nat) : Int) := by simp
    have f2 : (n : Int) * (b : Int) = ((n * b : Nat) : Int) := by simp
    have f3 : (b : Int) * (d : Int) = ((b * d : Nat) : Int) := by simp
    rw [e1, e2, hN.num, hN.den, f1, f2, f3, wrap64_id (x := ((a * d : Nat) : Int)) (by omega) (by omega), wrap64_id (x := ((n * b : Nat) : Int)) (by omega) (by omega), wrap64_id (x := ((b * d : Nat) : Int)) (by omega) (by omega), wrap64_id (x := ((a * d : Nat) : Int) + ((n * b : Nat) : Int)) (by omega) (by omega)]
    refine tbind (lowestN_tot (a * d + n * b) (b * d) (by omega) (Nat.mul_pos hb hN.d1) (by omega) _ _ (by omega) rfl) (fun _ e3 => ?_); subst e3
    have hset : ∀ x : S99, rd_T99 ((mgUpto l i).set (((mgUpto l i).length : Int) - 1).toNat x) (((mgUpto l i).length : Int) - 1) = x := fun x => by
      unfold rd_T99; exact ld_set_self x _ (by omega) (by omega)
    simp only [Option.bind_some, hset, List.set_set]
    refine go _ ?_
    conv => rhs; unfold mgUpto
    rw [if_pos ⟨c1, by omega, c3⟩, show (((mgUpto l i).length : Int) - 1).toNat = (mgUpto l i).length - 1 by omega]
    unfold mgE
    rw [e1, e2, hN.num, hN.den, Int.toNat_natCast, Int.toNat_natCast, Int.toNat_natCast, Int.toNat_natCast, c3]
  · obtain rfl : i = l.length := by omega
    exact tbind (voiceOf_tot _ (by omega)) (fun r hr => tsome hr)
theorem mergeRests_agree (l : List S99) (hl : l.length ≤ 1048576) : ∃ r, Tot (fun k => spec_MergeRests.f k l) (fun y => y = r) ∧ Tot (fun k => impl_MergeRests.f k l) (fun y => y = r) ∧ r.1.length ≤ 1048576 := by
  by_cases hg : VoGood l
  · obtain ⟨r, hr, hR⟩ := specMg_tot l hg
    refine ⟨r, ?_, ?_, ?_⟩
    · unfold spec_MergeRests.f
      exact tbind (spec_noGood_tot l hl) (fun b h => tpos (h.2 hg) ⟨r, hr, rfl⟩)
    · unfold impl_MergeRests.f
      exact tbind (impl_IsVoice_tot l hl) (fun b h => tpos (h.2 hg) (tmono (implMg_tot l hg) (fun y hy => hy.det hR)))
    · have := mgUpto_len l l.length
      rcases hR with ⟨_, rfl⟩ | ⟨_, rfl⟩
      · dsimp only; omega
      · simp
  · refine ⟨([], false), ?_, ?_, by simp⟩
    · unfold spec_MergeRests.f
      exact tbind (spec_noGood_tot l hl) (fun b h => tneg (fun hh => hg (h.1 hh)) (tsome rfl))
    · unfold impl_MergeRests.f
      exact tbind (impl_IsVoice_tot l hl) (fun b h => tneg (fun hh => hg (h.1 hh)) (tsome rfl))


theorem FnExactMergeRests (l0 : List (S103)) (hm0 : l0.length ≤ 9223372036854775807) (hw0 : ∀ y ∈ l0, Glue.wf64 y.f0 ∧ Glue.wf64 y.f1 ∧ Glue.wf64 y.f2) : ∃ k, laws_FnExactMergeRests.f k l0 = some true := by
  refine rounds ?_
  unfold laws_FnExactMergeRests.f
  rw [szEventS l0 (1048576 : Int) (by omega) (by omega) hm0]
  simp only [Option.bind_some]
  by_cases hl0 : (1048576 : Int) < (l0.length : Int)
  · simp only [if_pos hl0]; exact tpos (by omega) (tsome rfl)
  simp only [if_neg hl0]
  refine tneg (by omega) ?_
  obtain ⟨r, hS, hI, hR⟩ := mergeRests_agree (l0.map cvEvent) (by simp; omega)
  repeat first
    | exact tsome rfl
    | (refine tbind hS (fun _ e => ?_); subst e)
    | (refine tbind hI (fun _ e => ?_); subst e)
    | (refine tbind (toEventS l0 (by omega)) (fun _ e => ?_); subst e)
    | (refine tbind (eqEventS _ (by first | omega | (dsimp only; omega) | (simp; omega) | assumption)) (fun _ e => ?_); subst e)
    | (refine tbind (eqEventS _ (by first | assumption | omega | (dsimp only; omega) | (simp; omega))) (fun _ e => ?_); subst e)
    | (refine tbind (markEventS _ 1 (by first | assumption | omega | (dsimp only; omega) | (simp; omega)) (by omega) (by omega)) (fun _ e => ?_); subst e)
    | (refine tbind (heldEventS 1 _ (by first | omega | (simp; omega)) (by omega) (by omega)) (fun _ e => ?_); subst e)
    | (refine tbind (markEventS _ _ (by first | omega | (simp; omega)) (by omega) (by omega)) (fun _ e => ?_); subst e)
    | refine tpos rfl ?_
    | refine tneg (by dsimp only; omega) ?_
    | refine tneg (by omega) ?_
    | refine tneg (by simp; done) ?_
    | refine tpos (by dsimp only) ?_
    | (refine tstep ?_; simp only [laws_FnExactMergeRests.j0])
    | (refine tstep ?_; simp only [laws_FnExactMergeRests.j1])
    | (refine tstep ?_; simp only [laws_FnExactMergeRests.j2])
end Go.Proofs.Ytjgpngeifgcidaa.Pure
