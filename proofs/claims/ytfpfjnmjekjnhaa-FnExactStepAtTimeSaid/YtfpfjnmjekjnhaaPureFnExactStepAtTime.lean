/- The plain side of the law FnExactStepAtTime: lists and numbers alone. -/
import Derived.Test.YtfpfjnmjekjnhaaPFnExactStepAtTimex5
import Derived.Test.YtfpfjnmjekjnhaaGlue
import Derived.Test.YtfpfjnmjekjnhaaTot
set_option linter.unusedVariables false
set_option linter.unusedSimpArgs false
namespace Go.Proofs.Ytfpfjnmjekjnhaa.Pure
open Go.RowKit Go.Proofs.Ytfpfjnmjekjnhaa.PFnExactStepAtTime Go.Proofs.YtfpfjnmjekjnhaaW.PrintWords Go.Proofs.YtfpfjnmjekjnhaaW.PrintMore Go.Proofs.Ytfpfjnmjekjnhaa.Tot

theorem l1In_eq (a b c : Int) : spec_l1In.f a b c = some (decide (b ≤ a ∧ a ≤ c)) := by
  unfold spec_l1In.f
  by_cases h : b ≤ a <;> simp [h]

def cvChange (x : S57) : S55 := ⟨x.f0, x.f1⟩
theorem toChangeS (l : List S57) (hl : l.length ≤ 1048576) : Tot (fun k => laws_toChangeS.f k l) (fun r => r = l.map cvChange) := by
  unfold laws_toChangeS.f
  refine tpos (by omega) (tpos (by omega) ?_)
  have key := trec (σ := List S55 × Int) (fun s k => laws_toChangeS.l0 k l s.1 s.2) (fun s => ((l.length : Int) - s.2).toNat)
    (fun s => 0 ≤ s.2 ∧ s.2 ≤ (l.length : Int) ∧ s.1.length = l.length ∧ ∀ j : Int, 0 ≤ j → j < s.2 → s.1.getD j.toNat z55 = cvChange (l.getD j.toNat z57)) (fun _ r => r = l.map cvChange) ?_
  · exact key (List.replicate (l.length : Int).toNat z55, 0) ⟨Int.le_refl _, by dsimp only; omega, by simp, fun j h0 h1 => by dsimp only at h1; omega⟩
  · rintro ⟨ys, i⟩ ⟨h0, h1, h2, h3⟩ ih
    dsimp only at h0 h1 h2 h3
    simp only [laws_toChangeS.l0, laws_toChange.f, Option.bind_some]
    refine tite (fun c => ?_) (fun c => ?_)
    · refine tpos h0 (tpos (by omega) ?_)
      rw [wrap64_id (by omega) (by omega)]
      refine ih (_, i + 1) ⟨by dsimp only; omega, by dsimp only; omega, by simp [h2], ?_⟩ (by dsimp only; omega)
      intro j hj0 hj1
      dsimp only at hj1 ⊢
      by_cases e : j = i
      · subst e; rw [ld_set_self _ _ (by omega) hj0]; rfl
      · rw [ld_set_ne _ _ _ h0 hj0 (by omega)]; exact h3 j hj0 (by omega)
    · exact tsome (write_end h2 (fun j a b => h3 j a (by omega)))

theorem eqChangeS (l : List S55) (hl : l.length ≤ 1048576) : Tot (fun k => laws_eqChangeS.f k l l) (fun r => r = true) := by
  unfold laws_eqChangeS.f
  refine tpos rfl ?_
  refine trec (σ := Int) (fun i k => laws_eqChangeS.l0 k l l i) (fun i => ((l.length : Int) - i).toNat) (fun i => 0 ≤ i ∧ i ≤ (l.length : Int)) (fun _ r => r = true) ?_ 0 ⟨Int.le_refl _, by omega⟩
  rintro i ⟨h0, h1⟩ ih
  simp only [laws_eqChangeS.l0, laws_eqChange.f, if_true, Option.bind_some]
  refine tite (fun c => ?_) (fun c => tsome rfl)
  refine tpos h0 (tpos (by omega) ?_)
  rw [wrap64_id (by omega) (by omega)]
  exact ih (i + 1) ⟨by omega, by omega⟩ (by (try dsimp only); omega)

theorem szChangeS (l : List S57) (n : Int) (hn : 0 ≤ n) (hn2 : n ≤ 1048576) (hl : l.length ≤ 9223372036854775807) : laws_szChangeS.f l n = some (if n < l.length then -1 else n - l.length) := by
  unfold laws_szChangeS.f
  simp (disch := omega) only [wrap64_id]
  by_cases h : n < l.length
  · rw [if_pos (by omega), if_pos h]
  · rw [if_neg (by omega), if_neg h]

def OkChange (x : S55) : Prop := 0 ≤ x.f0 ∧ x.f0 ≤ 2000 ∧ 1000 ≤ x.f1 ∧ x.f1 ≤ 1000000
theorem teChange_eq (a b : Int) : spec_teChange.f a b = some (decide (0 ≤ a ∧ a ≤ 2000 ∧ 1000 ≤ b ∧ b ≤ 1000000)) := by
  unfold spec_teChange.f
  simp only [l1In_eq, Option.bind_some, decide_eq_true_eq]
  split
  · congr 1; rw [Bool.eq_iff_iff]; simp only [decide_eq_true_eq]; omega
  · congr 1; rw [Bool.eq_iff_iff]; simp only [decide_eq_true_eq]; simp; omega
theorem isChange_eq (a b : Int) : impl_isChange.f a b = some (decide (0 ≤ a ∧ a ≤ 2000 ∧ 1000 ≤ b ∧ b ≤ 1000000)) := by
  unfold impl_isChange.f
  by_cases h1 : 0 ≤ a <;> by_cases h2 : a ≤ 2000 <;> by_cases h3 : 1000 ≤ b <;> simp [h1, h2, h3] <;> omega
def TeC (l : List S55) (j : Int) : Prop := OkChange (rd_T55 l j) ∧ (j = 0 → (rd_T55 l j).f0 = 0) ∧ (0 < j → (rd_T55 l (j - 1)).f0 < (rd_T55 l j).f0)
def TeGood (l : List S55) : Prop := (∀ j : Int, 0 ≤ j → j < (l.length : Int) → TeC l j) ∧ (1 ≤ (l.length : Int) ∧ (l.length : Int) ≤ 20)
theorem teGood_tot (l : List S55) (hl : l.length ≤ 1048576) : Tot (fun k => spec_teGood.f k l) (fun b => (b = true) ↔ TeGood l) := by
  unfold spec_teGood.f
  refine trec (σ := Int) (fun i k => spec_teGood.l0 k l l (l.length : Int) i) (fun i => ((l.length : Int) - i).toNat) (fun i => 0 ≤ i ∧ i ≤ (l.length : Int))
    (fun i b => (b = true) ↔ ((∀ j : Int, i ≤ j → j < (l.length : Int) → TeC l j) ∧ (1 ≤ (l.length : Int) ∧ (l.length : Int) ≤ 20))) ?_ 0 ⟨Int.le_refl _, by omega⟩
  rintro i ⟨h0, h1⟩ ih
  simp only [spec_teGood.l0, teChange_eq, l1In_eq, Option.bind_some, decide_eq_true_eq]
  simp only [show wrap64 (i + 1) = i + 1 from wrap64_id (by omega) (by omega), show wrap64 (i - 1) = i - 1 from wrap64_id (by omega) (by omega)]
  repeat' (refine tite (fun _ => ?_) (fun _ => ?_))
  all_goals first
    | (exfalso; omega)
    | exact tsome (all_no (by omega) (by unfold TeC OkChange; omega))
    | exact tmono (ih (i + 1) ⟨by omega, by omega⟩ (by (try dsimp only); omega)) (fun b hb => all_go (by omega) (by unfold TeC OkChange; omega) hb)
    | exact tsome (all_end (by omega) (by simp only [decide_eq_true_eq]))
theorem areTempos_tot (l : List S55) (hl : l.length ≤ 1048576) : Tot (fun k => impl_AreTempos.f k l) (fun b => (b = true) ↔ TeGood l) := by
  have key : 1 ≤ (l.length : Int) → (l.length : Int) ≤ 20 → (rd_T55 l 0).f0 = 0 → Tot (fun k => impl_AreTempos.l0 k l l (l.length : Int) 0) (fun b => (b = true) ↔ TeGood l) := by
    intro g1 g2 g3
    refine tmono (trec (σ := Int) (fun i k => impl_AreTempos.l0 k l l (l.length : Int) i) (fun i => ((l.length : Int) - i).toNat) (fun i => 0 ≤ i ∧ i ≤ (l.length : Int))
      (fun i b => (b = true) ↔ ((∀ j : Int, i ≤ j → j < (l.length : Int) → TeC l j) ∧ True)) ?_ 0 ⟨Int.le_refl _, by omega⟩) (fun b hb => ?_)
    · rintro i ⟨h0, h1⟩ ih
      have g4 : i = 0 → (rd_T55 l i).f0 = 0 := by rintro rfl; exact g3
      simp only [impl_AreTempos.l0, isChange_eq, Option.bind_some, decide_eq_true_eq]
      simp only [show wrap64 (i + 1) = i + 1 from wrap64_id (by omega) (by omega), show wrap64 (i - 1) = i - 1 from wrap64_id (by omega) (by omega)]
      repeat' (refine tite (fun _ => ?_) (fun _ => ?_))
      all_goals first
        | (exfalso; omega)
        | exact tsome (all_no (by omega) (by unfold TeC OkChange; omega))
        | exact tmono (ih (i + 1) ⟨by omega, by omega⟩ (by (try dsimp only); omega)) (fun b hb => all_go (by omega) (by unfold TeC OkChange; omega) hb)
        | exact tsome (all_end (by omega) (by simp))
    · rw [hb]; unfold TeGood
      exact ⟨fun h => ⟨h.1, g1, g2⟩, fun h => ⟨h.1, trivial⟩⟩
  have no : ∀ g : Nat → Option Bool, (∀ k, g k = impl_AreTempos.j0 k l true) → ¬ TeGood l → Tot g (fun b => (b = true) ↔ TeGood l) := by
    intro g hg hn
    refine tstep (tconst (r := false) (fun k => ?_) ⟨fun h => by simp at h, fun h => absurd h hn⟩)
    rw [hg]; simp only [impl_AreTempos.j0, if_true]
  unfold impl_AreTempos.f
  refine tite (fun c => no _ (fun _ => rfl) (fun h => by have := h.2; omega)) (fun c1 => ?_)
  refine tite (fun c => no _ (fun _ => rfl) (fun h => by have := h.2; omega)) (fun c2 => ?_)
  refine tpos (by omega) ?_
  by_cases h : (rd_T55 l 0).f0 = 0
  · rw [show ((rd_T55 l 0).f0 != 0) = false by simp [h]]
    refine tstep ?_
    simp only [impl_AreTempos.j0]
    exact tneg (by simp) (key (by omega) (by omega) h)
  · rw [show ((rd_T55 l 0).f0 != 0) = true by simp [h]]
    exact no _ (fun _ => rfl) (fun g => h ((g.1 0 (by omega) (by omega)).2.1 rfl))

theorem te_mono (l : List S55) (hg : TeGood l) (p q : Int) (p0 : 0 ≤ p) (h : p ≤ q) (hq : q < (l.length : Int)) : (rd_T55 l p).f0 ≤ (rd_T55 l q).f0 := by
  have key : ∀ (d : Nat) (j : Int), j = p + d → j < (l.length : Int) → (rd_T55 l p).f0 ≤ (rd_T55 l j).f0 := by
    intro d
    induction d with
    | zero => intro j e _; rw [show j = p by omega]; exact Int.le_refl _
    | succ d ih =>
      intro j e hj
      have h1 := ih (j - 1) (by omega) (by omega)
      have h2 := (hg.1 j (by omega) hj).2.2 (by omega)
      omega
  exact key (q - p).toNat q (by omega) hq
theorem te_lt (l : List S55) (hg : TeGood l) (p q : Int) (p0 : 0 ≤ p) (h : p < q) (hq : q < (l.length : Int)) : (rd_T55 l p).f0 < (rd_T55 l q).f0 := by
  have h1 := te_mono l hg p (q - 1) p0 (by omega) (by omega)
  have h2 := (hg.1 q (by omega) hq).2.2 (by omega)
  omega

theorem l1Least_eq (a b : Int) : spec_l1Least.f a b = some (mn a b) := by
  unfold spec_l1Least.f mn
  by_cases h : a < b
  · rw [if_pos h, if_neg (by omega)]
  · rw [if_neg h]
    by_cases h2 : b < a
    · rw [if_pos h2]
    · rw [if_neg h2]
      congr 1; omega
theorem timeSame (k : Nat) : ∀ (l : List S55) (s t : Int) (l2 : List S55) (n i : Int), impl_timeOf.l0 k l s t l2 n i = spec_teTime.l0 k l s t l2 n i := by
  induction k with
  | zero => intros; rfl
  | succ k ih =>
    intro l s t l2 n i
    simp only [impl_timeOf.l0, spec_teTime.l0, ih, l1Least_eq, Option.bind_some]
theorem timeSameF (k : Nat) (l : List S55) (s : Int) : impl_timeOf.f k l s = spec_teTime.f k l s := by
  unfold impl_timeOf.f spec_teTime.f
  exact timeSame k l s 0 l _ 0

def seg (l : List S55) (s i : Int) : Int :=
  if i + 1 < (l.length : Int) then (if mn s (rd_T55 l (i + 1)).f0 > (rd_T55 l i).f0 then (mn s (rd_T55 l (i + 1)).f0 - (rd_T55 l i).f0) * (rd_T55 l i).f1 else 0)
  else (if s > (rd_T55 l i).f0 then (s - (rd_T55 l i).f0) * (rd_T55 l i).f1 else 0)
def tmUpto (l : List S55) (s : Int) : Nat → Int
  | 0 => 0
  | i + 1 => tmUpto l s i + seg l s i
def tm (l : List S55) (s : Int) : Int := tmUpto l s l.length
theorem mul_bounds {a b : Int} (a0 : 0 ≤ a) (a1 : a ≤ 2000) (b0 : 1000 ≤ b) (b1 : b ≤ 1000000) : 0 ≤ a * b ∧ a * b ≤ 2000000000 := by
  have h1 : a * b ≤ 2000 * b := Int.mul_le_mul_of_nonneg_right a1 (by omega)
  have h2 : 0 ≤ a * b := Int.mul_nonneg a0 (by omega)
  omega
theorem seg_bounds (l : List S55) (hg : TeGood l) (s i : Int) (s1 : s ≤ 2000) (i0 : 0 ≤ i) (i1 : i < (l.length : Int)) : 0 ≤ seg l s i ∧ seg l s i ≤ 2000000000 := by
  have h := (hg.1 i i0 i1).1
  unfold OkChange at h
  unfold seg
  split
  · rename_i c
    have h2 := (hg.1 (i + 1) (by omega) c).1
    unfold OkChange at h2
    split
    · rename_i c2
      have hmn : mn s (rd_T55 l (i + 1)).f0 ≤ 2000 := by unfold mn; split <;> omega
      exact mul_bounds (by omega) (by omega) h.2.2.1 h.2.2.2
    · omega
  · split
    · exact mul_bounds (by omega) (by omega) h.2.2.1 h.2.2.2
    · omega
theorem tmUpto_bounds (l : List S55) (hg : TeGood l) (s : Int) (s1 : s ≤ 2000) : ∀ i : Nat, i ≤ l.length → 0 ≤ tmUpto l s i ∧ tmUpto l s i ≤ 2000000000 * (i : Int) := by
  intro i
  induction i with
  | zero => intro _; simp [tmUpto]
  | succ i ih =>
    intro hi
    have h1 := ih (by omega)
    have h2 := seg_bounds l hg s i s1 (by omega) (by omega)
    unfold tmUpto
    omega
theorem tm_bounds (l : List S55) (hg : TeGood l) (s : Int) (s1 : s ≤ 2000) : 0 ≤ tm l s ∧ tm l s ≤ 40000000000 := by
  have h := tmUpto_bounds l hg s s1 l.length (Nat.le_refl _)
  have := hg.2
  unfold tm
  omega
theorem l1LeastMn_eq (a b : Int) : spec_l1Least.f a b = some (mn a b) := by
  unfold spec_l1Least.f mn
  by_cases h : a < b
  · rw [if_pos h, if_neg (by omega)]
  · rw [if_neg h]
    by_cases h2 : b < a
    · rw [if_pos h2]
    · rw [if_neg h2]
      congr 1; omega
theorem teTime_tot (l : List S55) (hg : TeGood l) (s : Int) (s0 : 0 ≤ s) (s1 : s ≤ 2000) : Tot (fun k => spec_teTime.f k l s) (fun r => r = tm l s) := by
  have hn := hg.2
  unfold spec_teTime.f
  refine trec (σ := Nat) (fun i k => spec_teTime.l0 k l s (tmUpto l s i) l (l.length : Int) (i : Int)) (fun i => l.length - i) (fun i => i ≤ l.length) (fun _ r => r = tm l s) ?_ 0 (Nat.zero_le _)
  intro i hi ih
  simp only [spec_teTime.l0, l1LeastMn_eq, Option.bind_some, wrap64_id (x := (i : Int) + 1) (by omega) (by omega)]
  refine tite (fun c => ?_) (fun c => tsome (by unfold tm; rw [show i = l.length by omega]))
  refine tpos (by omega) (tpos c ?_)
  have hb := tmUpto_bounds l hg s s1 i hi
  have hs := seg_bounds l hg s i s1 (by omega) c
  have h := (hg.1 i (by omega) c).1
  unfold OkChange at h
  have hstep : tmUpto l s (i + 1) = tmUpto l s i + seg l s i := rfl
  have go : ∀ x : Int, x = tmUpto l s (i + 1) → Tot (fun k => spec_teTime.l0 k l s x l (l.length : Int) ((i : Int) + 1)) (fun r => r = tm l s) := by
    intro x e
    rw [e]
    have := ih (i + 1) (by omega) (by omega)
    simpa using this
  refine tite (fun c2 => ?_) (fun c2 => ?_)
  · refine tpos (by omega) ?_
    have h2 := (hg.1 (i + 1) (by omega) c2).1
    unfold OkChange at h2
    refine tite (fun c3 => ?_) (fun c3 => ?_)
    · have e : seg l s i = (mn s (rd_T55 l ((i : Int) + 1)).f0 - (rd_T55 l i).f0) * (rd_T55 l i).f1 := by
        unfold seg; rw [if_pos c2, if_pos c3]
      have hmn : mn s (rd_T55 l ((i : Int) + 1)).f0 ≤ 2000 := by unfold mn; split <;> omega
      rw [wrap64_id (x := mn s (rd_T55 l ((i : Int) + 1)).f0 - (rd_T55 l i).f0) (by omega) (by omega), ← e, wrap64_id (x := seg l s i) (by omega) (by omega), wrap64_id (by omega) (by omega)]
      exact go _ hstep.symm
    · have e : seg l s i = 0 := by unfold seg; rw [if_pos c2, if_neg c3]
      exact go _ (by omega)
  · refine tite (fun c3 => ?_) (fun c3 => ?_)
    · have e : seg l s i = (s - (rd_T55 l i).f0) * (rd_T55 l i).f1 := by
        unfold seg; rw [if_neg c2, if_pos c3]
      rw [wrap64_id (x := s - (rd_T55 l i).f0) (by omega) (by omega), ← e, wrap64_id (x := seg l s i) (by omega) (by omega), wrap64_id (by omega) (by omega)]
      exact go _ hstep.symm
    · have e : seg l s i = 0 := by unfold seg; rw [if_neg c2, if_neg c3]
      exact go _ (by omega)
theorem mul_mono {a b c : Int} (h : a ≤ b) (hc : 1000 ≤ c) : a * c ≤ b * c := Int.mul_le_mul_of_nonneg_right h (by omega)
theorem seg_mono (l : List S55) (hg : TeGood l) (s s' i : Int) (h : s ≤ s') (i0 : 0 ≤ i) (i1 : i < (l.length : Int)) : seg l s i ≤ seg l s' i := by
  have hc := (hg.1 i i0 i1).1
  unfold OkChange at hc
  have hp : ∀ x y : Int, x ≤ y → (if x > (rd_T55 l i).f0 then (x - (rd_T55 l i).f0) * (rd_T55 l i).f1 else 0) ≤ (if y > (rd_T55 l i).f0 then (y - (rd_T55 l i).f0) * (rd_T55 l i).f1 else 0) := by
    intro x y hxy
    by_cases h1 : x > (rd_T55 l i).f0
    · rw [if_pos h1, if_pos (by omega)]
      exact mul_mono (by omega) hc.2.2.1
    · rw [if_neg h1]
      split
      · exact Int.mul_nonneg (by omega) (by omega)
      · exact Int.le_refl _
  unfold seg
  split
  · exact hp _ _ (by unfold mn; split <;> split <;> omega)
  · exact hp _ _ h
theorem tm_mono (l : List S55) (hg : TeGood l) (s s' : Int) (h : s ≤ s') : tm l s ≤ tm l s' := by
  have key : ∀ i : Nat, i ≤ l.length → tmUpto l s i ≤ tmUpto l s' i := by
    intro i
    induction i with
    | zero => intro _; exact Int.le_refl _
    | succ i ih =>
      intro hi
      have h1 := ih (by omega)
      have h2 := seg_mono l hg s s' i h (by omega) (by omega)
      unfold tmUpto
      omega
  exact key _ (Nat.le_refl _)
theorem tm_zero (l : List S55) (hg : TeGood l) : tm l 0 = 0 := by
  have key : ∀ i : Nat, i ≤ l.length → tmUpto l 0 i = 0 := by
    intro i
    induction i with
    | zero => intro _; rfl
    | succ i ih =>
      intro hi
      have hc := (hg.1 i (by omega) (by omega)).1
      unfold OkChange at hc
      have h2 : seg l 0 i = 0 := by
        unfold seg
        split
        · rw [if_neg]
          unfold mn; split <;> omega
        · rw [if_neg (by omega)]
      unfold tmUpto
      rw [ih (by omega), h2]; rfl
  exact key _ (Nat.le_refl _)

theorem timeOf_tot (l : List S55) (hg : TeGood l) (s : Int) (s0 : 0 ≤ s) (s1 : s ≤ 2000) : Tot (fun k => impl_timeOf.f k l s) (fun r => r = tm l s) := by
  simp only [timeSameF]
  exact teTime_tot l hg s s0 s1

def StepOf (l : List S55) (t s : Int) : Prop := 0 ≤ s ∧ s ≤ 2000 ∧ tm l s ≤ t ∧ (s < 2000 → t < tm l (s + 1))
theorem StepOf.det {l : List S55} (hg : TeGood l) {t s s' : Int} (h : StepOf l t s) (h' : StepOf l t s') : s = s' := by
  obtain ⟨a, b, c, d⟩ := h
  obtain ⟨a', b', c', d'⟩ := h'
  rcases Int.lt_trichotomy s s' with g | g | g
  · have := tm_mono l hg (s + 1) s' (by omega)
    have := d (by omega)
    omega
  · exact g
  · have := tm_mono l hg (s' + 1) s (by omega)
    have := d' (by omega)
    omega
theorem specStep_tot (l : List S55) (hg : TeGood l) (t : Int) (t0 : 0 ≤ t) : Tot (fun k => spec_StepAtTime.l0 k l t 0) (fun r => ∃ s, r = (s, true) ∧ StepOf l t s) := by
  refine trec (σ := Int) (fun s k => spec_StepAtTime.l0 k l t s) (fun s => (2000 - s).toNat) (fun s => 0 ≤ s ∧ s ≤ 2000 ∧ tm l s ≤ t) (fun _ r => ∃ s, r = (s, true) ∧ StepOf l t s) ?_ 0 ⟨Int.le_refl _, by omega, by rw [tm_zero l hg]; exact t0⟩
  rintro s ⟨h0, h1, h2⟩ ih
  simp only [spec_StepAtTime.l0, wrap64_id (x := s + 1) (by omega) (by omega)]
  refine tite (fun c => ?_) (fun c => tsome ⟨s, rfl, h0, h1, h2, fun h => absurd h c⟩)
  refine tbind (teTime_tot l hg (s + 1) (by omega) (by omega)) (fun _ e => ?_); subst e
  exact tite (fun c2 => ih (s + 1) ⟨by omega, by omega, c2⟩ (by (try dsimp only); omega)) (fun c2 => tsome ⟨s, rfl, h0, h1, h2, fun _ => by omega⟩)
theorem implStep_tot (l : List S55) (hg : TeGood l) (t : Int) (t0 : 0 ≤ t) : Tot (fun k => impl_StepAtTime.l0 k l t 0 2000) (fun r => ∃ s, r = (s, true) ∧ StepOf l t s) := by
  refine trec (σ := Int × Int) (fun s k => impl_StepAtTime.l0 k l t s.1 s.2) (fun s => (s.2 - s.1).toNat) (fun s => 0 ≤ s.1 ∧ s.1 ≤ s.2 ∧ s.2 ≤ 2000 ∧ tm l s.1 ≤ t ∧ (s.2 < 2000 → t < tm l (s.2 + 1))) (fun _ r => ∃ s, r = (s, true) ∧ StepOf l t s) ?_ (0, 2000) ⟨Int.le_refl _, by dsimp only; omega, Int.le_refl _, by dsimp only; rw [tm_zero l hg]; exact t0, fun h => by dsimp only at h; omega⟩
  rintro ⟨a, b⟩ ⟨h0, h1, h2, h3, h4⟩ ih
  dsimp only at h0 h1 h2 h3 h4
  have hm : Int.tdiv (a + b + 1) 2 = (a + b + 1) / 2 := Int.tdiv_eq_ediv_of_nonneg (by omega)
  simp only [impl_StepAtTime.l0, wrap64_id (x := a + b) (by omega) (by omega), wrap64_id (x := a + b + 1) (by omega) (by omega), hm, wrap64_id (x := (a + b + 1) / 2) (by omega) (by omega), wrap64_id (x := (a + b + 1) / 2 - 1) (by omega) (by omega)]
  refine tite (fun c => ?_) (fun c => tsome ⟨a, rfl, h0, by omega, h3, fun h => by rw [show a = b by omega]; exact h4 (by omega)⟩)
  refine tbind (timeOf_tot l hg ((a + b + 1) / 2) (by omega) (by omega)) (fun _ e => ?_); subst e
  refine tite (fun c2 => ih ((a + b + 1) / 2, b) ⟨by dsimp only; omega, by dsimp only; omega, h2, c2, h4⟩ (by dsimp only; omega)) (fun c2 => ih (a, (a + b + 1) / 2 - 1) ⟨h0, by dsimp only; omega, by dsimp only; omega, h3, fun _ => ?_⟩ (by dsimp only; omega))
  dsimp only
  rw [show (a + b + 1) / 2 - 1 + 1 = (a + b + 1) / 2 by omega]
  omega
theorem stepAtTime_agree (l : List S55) (t : Int) (hl : l.length ≤ 1048576) : ∃ r, Tot (fun k => spec_StepAtTime.f k l t) (fun y => y = r) ∧ Tot (fun k => impl_StepAtTime.f k l t) (fun y => y = r) := by
  have sF : Tot (fun k => spec_StepAtTime.j0 k l t true) (fun y => y = (0, false)) := by
    refine tstep ?_
    simp only [spec_StepAtTime.j0, if_true]
    exact tsome rfl
  have iF : Tot (fun k => impl_StepAtTime.j0 k l t true) (fun y => y = (0, false)) := by
    refine tstep ?_
    simp only [impl_StepAtTime.j0, if_true]
    exact tsome rfl
  by_cases hg : TeGood l ∧ 0 ≤ t
  · obtain ⟨hg, t0⟩ := hg
    obtain ⟨r, hr, s, rfl, hs⟩ := specStep_tot l hg t t0
    refine ⟨(s, true), ?_, ?_⟩
    · unfold spec_StepAtTime.f
      refine tbind (teGood_tot l hl) (fun b hb => tpos (hb.2 hg) ?_)
      rw [decide_eq_false (show ¬ t < 0 by omega)]
      refine tstep ?_
      simp only [spec_StepAtTime.j0]
      exact tneg (by simp) ⟨_, hr, rfl⟩
    · unfold impl_StepAtTime.f
      refine tbind (areTempos_tot l hl) (fun b hb => tpos (hb.2 hg) ?_)
      rw [decide_eq_false (show ¬ t < 0 by omega)]
      refine tstep ?_
      simp only [impl_StepAtTime.j0]
      refine tneg (by simp) (tmono (implStep_tot l hg t t0) (fun y hy => ?_))
      obtain ⟨s', e, hs'⟩ := hy
      rw [e, hs'.det hg hs]
  · refine ⟨(0, false), ?_, ?_⟩
    · unfold spec_StepAtTime.f
      refine tbind (teGood_tot l hl) (fun b hb => tite (fun c => ?_) (fun c => sF))
      rw [decide_eq_true (show t < 0 from Classical.byContradiction fun h => hg ⟨hb.1 c, by omega⟩)]
      exact sF
    · unfold impl_StepAtTime.f
      refine tbind (areTempos_tot l hl) (fun b hb => tite (fun c => ?_) (fun c => iF))
      rw [decide_eq_true (show t < 0 from Classical.byContradiction fun h => hg ⟨hb.1 c, by omega⟩)]
      exact iF


theorem FnExactStepAtTime (l0 : List (S57)) (a1 : Int) (hm0 : l0.length ≤ 9223372036854775807) (hw0 : ∀ y ∈ l0, Glue.wf64 y.f0 ∧ Glue.wf64 y.f1) (w1 : Glue.wf64 a1) : ∃ k, laws_FnExactStepAtTime.f k l0 a1 = some true := by
  refine rounds ?_
  unfold laws_FnExactStepAtTime.f
  rw [szChangeS l0 (1048576 : Int) (by omega) (by omega) hm0]
  simp only [Option.bind_some]
  by_cases hl0 : (1048576 : Int) < (l0.length : Int)
  · simp only [if_pos hl0]; exact tpos (by omega) (tsome rfl)
  simp only [if_neg hl0]
  refine tneg (by omega) ?_
  obtain ⟨r, hS, hI⟩ := stepAtTime_agree (l0.map cvChange) a1 (by simp; omega)
  repeat first
    | exact tsome rfl
    | (refine tbind hS (fun _ e => ?_); subst e)
    | (refine tbind hI (fun _ e => ?_); subst e)
    | (refine tbind (toChangeS l0 (by omega)) (fun _ e => ?_); subst e)
    | (refine tbind (eqChangeS _ (by first | omega | (dsimp only; omega) | (simp; omega) | assumption)) (fun _ e => ?_); subst e)
    | refine tpos rfl ?_
    | refine tneg (by simp) ?_
    | refine tneg (by dsimp only; omega) ?_
    | refine tpos (by dsimp only) ?_
    | (refine tstep ?_; simp only [laws_FnExactStepAtTime.j0])
end Go.Proofs.Ytfpfjnmjekjnhaa.Pure
