/- The plain side of the law FnTempos: lists and numbers alone. -/
import Derived.Test.YtjgpngeifgcidaaPFnTemposx13
import Derived.Test.YtjgpngeifgcidaaGlue
import Derived.Test.YtjgpngeifgcidaaTot
import Derived.Laws.Bits64b
set_option linter.unusedVariables false
set_option linter.unusedSimpArgs false
namespace Go.Proofs.Ytjgpngeifgcidaa.Pure
open Go.RowKit Go.Proofs.Ytjgpngeifgcidaa.PFnTempos Go.Proofs.YtjgpngeifgcidaaW.PrintWords Go.Proofs.YtjgpngeifgcidaaW.PrintMore Go.Proofs.Ytjgpngeifgcidaa.Tot

theorem l1In_eq (a b c : Int) : spec_l1In.f a b c = some (decide (b ≤ a ∧ a ≤ c)) := by
  unfold spec_l1In.f
  by_cases h : b ≤ a <;> simp [h]

def OkChange (x : S48) : Prop := 0 ≤ x.f0 ∧ x.f0 ≤ 2000 ∧ 1000 ≤ x.f1 ∧ x.f1 ≤ 1000000
theorem teChange_eq (a b : Int) : spec_teChange.f a b = some (decide (0 ≤ a ∧ a ≤ 2000 ∧ 1000 ≤ b ∧ b ≤ 1000000)) := by
  unfold spec_teChange.f
  simp only [l1In_eq, Option.bind_some, decide_eq_true_eq]
  split
  · congr 1; rw [Bool.eq_iff_iff]; simp only [decide_eq_true_eq]; omega
  · congr 1; rw [Bool.eq_iff_iff]; simp only [decide_eq_true_eq]; simp; omega
theorem isChange_eq (a b : Int) : impl_isChange.f a b = some (decide (0 ≤ a ∧ a ≤ 2000 ∧ 1000 ≤ b ∧ b ≤ 1000000)) := by
  unfold impl_isChange.f
  by_cases h1 : 0 ≤ a <;> by_cases h2 : a ≤ 2000 <;> by_cases h3 : 1000 ≤ b <;> simp [h1, h2, h3] <;> omega
def TeC (l : List S48) (j : Int) : Prop := OkChange (rd_T48 l j) ∧ (j = 0 → (rd_T48 l j).f0 = 0) ∧ (0 < j → (rd_T48 l (j - 1)).f0 < (rd_T48 l j).f0)
def TeGood (l : List S48) : Prop := (∀ j : Int, 0 ≤ j → j < (l.length : Int) → TeC l j) ∧ (1 ≤ (l.length : Int) ∧ (l.length : Int) ≤ 20)
theorem teGood_tot (l : List S48) (hl : l.length ≤ 1048576) : Tot (fun k => spec_teGood.f k l) (fun b => (b = true) ↔ TeGood l) := by
  unfold spec_teGood.f
  refine trec (σ := Int) (fun i k => spec_teGood.l0 k l l (l.length : Int) i) (fun i => ((l.length : Int) - i).toNat) (fun i => 0 ≤ i ∧ i ≤ (l.length : Int))
    (fun i b => (b = true) ↔ ((∀ j : Int, i ≤ j → j < (l.length : Int) → TeC l j) ∧ (1 ≤ (l.length : Int) ∧ (l.length : Int) ≤ 20))) ?_ 0 ⟨Int.le_refl _, by omega⟩
  rintro i ⟨h0, h1⟩ ih
  simp only [spec_teGood.l0, teChange_eq, l1In_eq, Option.bind_some, decide_eq_true_eq]
  simp only [show wrap64 (i + 1) = i + 1 from wrap64_id (by omega) (by omega), show wrap64 (i - 1) = i - 1 from wrap64_id (by omega) (by omega)]
  repeat' (refine tite (fun _ => ?_) (fun _ => ?_))
  all_goals first
    | (exfalso; omega)
    | exact tsome (all_no (by omega) (by unfold TeC OkChange; omega))
    | exact tmono (ih (i + 1) ⟨by omega, by omega⟩ (by (try dsimp only); omega)) (fun b hb => all_go (by omega) (by unfold TeC OkChange; omega) hb)
    | exact tsome (all_end (by omega) (by simp only [decide_eq_true_eq]))
theorem areTempos_tot (l : List S48) (hl : l.length ≤ 1048576) : Tot (fun k => impl_AreTempos.f k l) (fun b => (b = true) ↔ TeGood l) := by
  have key : 1 ≤ (l.length : Int) → (l.length : Int) ≤ 20 → (rd_T48 l 0).f0 = 0 → Tot (fun k => impl_AreTempos.l0 k l l (l.length : Int) 0) (fun b => (b = true) ↔ TeGood l) := by
    intro g1 g2 g3
    refine tmono (trec (σ := Int) (fun i k => impl_AreTempos.l0 k l l (l.length : Int) i) (fun i => ((l.length : Int) - i).toNat) (fun i => 0 ≤ i ∧ i ≤ (l.length : Int))
      (fun i b => (b = true) ↔ ((∀ j : Int, i ≤ j → j < (l.length : Int) → TeC l j) ∧ True)) ?_ 0 ⟨Int.le_refl _, by omega⟩) (fun b hb => ?_)
    · rintro i ⟨h0, h1⟩ ih
      have g4 : i = 0 → (rd_T48 l i).f0 = 0 := by rintro rfl; exact g3
      simp only [impl_AreTempos.l0, isChange_eq, Option.bind_some, decide_eq_true_eq]
      simp only [show wrap64 (i + 1) = i + 1 from wrap64_id (by omega) (by omega), show wrap64 (i - 1) = i - 1 from wrap64_id (by omega) (by omega)]
      repeat' (refine tite (fun _ => ?_) (fun _ => ?_))
      all_goals first
        | (exfalso; omega)
        | exact tsome (all_no (by omega) (by unfold TeC OkChange; omega))
        | exact tmono (ih (i + 1) ⟨by omega, by omega⟩ (by (try dsimp only); omega)) (fun b hb => all_go (by omega) (by unfold TeC OkChange; omega) hb)
        | exact tsome (all_end (by omega) (by simp))
    · rw [hb]; unfold TeGood
      exact ⟨fun h => ⟨h.1, g1, g2⟩, fun h => ⟨h.1, trivial⟩⟩
  have no : ∀ g : Nat → Option Bool, (∀ k, g k = impl_AreTempos.j0 k l true) → ¬ TeGood l → Tot g (fun b => (b = true) ↔ TeGood l) := by
    intro g hg hn
    refine tstep (tconst (r := false) (fun k => ?_) ⟨fun h => by simp at h, fun h => absurd h hn⟩)
    rw [hg]; simp only [impl_AreTempos.j0, if_true]
  unfold impl_AreTempos.f
  refine tite (fun c => no _ (fun _ => rfl) (fun h => by have := h.2; omega)) (fun c1 => ?_)
  refine tite (fun c => no _ (fun _ => rfl) (fun h => by have := h.2; omega)) (fun c2 => ?_)
  refine tpos (by omega) ?_
  by_cases h : (rd_T48 l 0).f0 = 0
  · rw [show ((rd_T48 l 0).f0 != 0) = false by simp [h]]
    refine tstep ?_
    simp only [impl_AreTempos.j0]
    exact tneg (by simp) (key (by omega) (by omega) h)
  · rw [show ((rd_T48 l 0).f0 != 0) = true by simp [h]]
    exact no _ (fun _ => rfl) (fun g => h ((g.1 0 (by omega) (by omega)).2.1 rfl))

theorem rd_eq (xs : List Int) (i : Int) : rd xs i = xs.getD i.toNat 0 := rfl

theorem te_mono (l : List S48) (hg : TeGood l) (p q : Int) (p0 : 0 ≤ p) (h : p ≤ q) (hq : q < (l.length : Int)) : (rd_T48 l p).f0 ≤ (rd_T48 l q).f0 := by
  have key : ∀ (d : Nat) (j : Int), j = p + d → j < (l.length : Int) → (rd_T48 l p).f0 ≤ (rd_T48 l j).f0 := by
    intro d
    induction d with
    | zero => intro j e _; rw [show j = p by omega]; exact Int.le_refl _
    | succ d ih =>
      intro j e hj
      have h1 := ih (j - 1) (by omega) (by omega)
      have h2 := (hg.1 j (by omega) hj).2.2 (by omega)
      omega
  exact key (q - p).toNat q (by omega) hq
theorem te_lt (l : List S48) (hg : TeGood l) (p q : Int) (p0 : 0 ≤ p) (h : p < q) (hq : q < (l.length : Int)) : (rd_T48 l p).f0 < (rd_T48 l q).f0 := by
  have h1 := te_mono l hg p (q - 1) p0 (by omega) (by omega)
  have h2 := (hg.1 q (by omega) hq).2.2 (by omega)
  omega

def TeAt (l : List S48) (s r : Int) : Prop := 0 ≤ r ∧ r < (l.length : Int) ∧ (rd_T48 l r).f0 ≤ s ∧ (r + 1 < (l.length : Int) → s < (rd_T48 l (r + 1)).f0)
theorem TeAt.det {l : List S48} (hg : TeGood l) {s r r' : Int} (h : TeAt l s r) (h' : TeAt l s r') : r = r' := by
  obtain ⟨a, b, c, d⟩ := h
  obtain ⟨a', b', c', d'⟩ := h'
  rcases Int.lt_trichotomy r r' with g | g | g
  · have := te_mono l hg (r + 1) r' (by omega) (by omega) b'
    have := d (by omega)
    omega
  · exact g
  · have := te_mono l hg (r' + 1) r (by omega) (by omega) b
    have := d' (by omega)
    omega
theorem teAt_tot (l : List S48) (hg : TeGood l) (s : Int) (hs : 0 ≤ s) : Tot (fun k => spec_teAt.f k l s) (fun r => TeAt l s r) := by
  have hn := hg.2
  have hz := (hg.1 0 (by omega) (by omega)).2.1 rfl
  unfold spec_teAt.f
  refine trec (σ := Int) (fun i k => spec_teAt.l0 k l s i) (fun i => ((l.length : Int) - i).toNat) (fun i => 0 ≤ i ∧ i < (l.length : Int) ∧ (rd_T48 l i).f0 ≤ s) (fun _ r => TeAt l s r) ?_ 0 ⟨Int.le_refl _, by omega, by omega⟩
  rintro i ⟨h0, h1, h2⟩ ih
  simp only [spec_teAt.l0, wrap64_id (x := i + 1) (by omega) (by omega)]
  refine tite (fun c => ?_) (fun c => tsome ⟨h0, h1, h2, fun h => absurd h c⟩)
  refine tpos (by omega) ?_
  refine tite (fun c2 => ?_) (fun c2 => tsome ⟨h0, h1, h2, fun h => by omega⟩)
  exact ih (i + 1) ⟨by omega, by omega, c2⟩ (by (try dsimp only); omega)

theorem implTempoAt_tot (l : List S48) (hg : TeGood l) (s r : Int) (hr : TeAt l s r) : Tot (fun k => impl_tempoAt.f k l s) (fun y => y = (rd_T48 l r).f1) := by
  have hn := hg.2
  obtain ⟨r0, r1, r2, r3⟩ := hr
  unfold impl_tempoAt.f
  refine trec (σ := Int × Int) (fun p k => impl_tempoAt.l0 k s p.1 l (l.length : Int) p.2) (fun p => ((l.length : Int) - p.2).toNat) (fun p => 0 ≤ p.2 ∧ p.2 ≤ (l.length : Int) ∧ (r < p.2 → p.1 = (rd_T48 l r).f1)) (fun _ y => y = (rd_T48 l r).f1) ?_ (0, 0) ⟨Int.le_refl _, by dsimp only; omega, fun h => by dsimp only at h; omega⟩
  rintro ⟨acc, i⟩ ⟨h0, h1, h2⟩ ih
  dsimp only at h0 h1 h2
  simp only [impl_tempoAt.l0]
  refine tite (fun c => ?_) (fun c => tsome (h2 (by omega)))
  refine tpos h0 (tpos c ?_)
  rw [wrap64_id (by omega) (by omega)]
  refine tite (fun c2 => ih ((rd_T48 l i).f1, i + 1) ⟨by dsimp only; omega, by dsimp only; omega, fun h => ?_⟩ (by dsimp only; omega)) (fun c2 => ih (acc, i + 1) ⟨by dsimp only; omega, by dsimp only; omega, fun h => ?_⟩ (by dsimp only; omega))
  · dsimp only at h ⊢
    have : ¬ r < i := fun g => by
      have := te_mono l hg (r + 1) i (by omega) (by omega) c
      have := r3 (by omega)
      omega
    rw [show i = r by omega]
  · dsimp only at h ⊢
    by_cases e : i = r
    · subst e; exact absurd r2 c2
    · exact h2 (by omega)

theorem teStep_eq (a : Int) : spec_teStep.f a = some (decide (0 ≤ a ∧ a ≤ 2000)) := by
  unfold spec_teStep.f
  simp only [l1In_eq, Option.bind_some]
theorem isTempoStep_eq (a : Int) : impl_isTempoStep.f a = some (decide (0 ≤ a ∧ a ≤ 2000)) := by
  unfold impl_isTempoStep.f
  by_cases h : 0 ≤ a <;> simp [h]

theorem tempoAt_agree (l : List S48) (s : Int) (hl : l.length ≤ 1048576) : ∃ r, Tot (fun k => spec_TempoAt.f k l s) (fun y => y = r) ∧ Tot (fun k => impl_TempoAt.f k l s) (fun y => y = r) := by
  by_cases hg : TeGood l ∧ 0 ≤ s ∧ s ≤ 2000
  · obtain ⟨hg, hs⟩ := hg
    obtain ⟨r0, hr0, hi0⟩ := teAt_tot l hg s hs.1
    have h1 : Tot (fun k => spec_teAt.f k l s) (fun y => y = r0) := ⟨r0, hr0, rfl⟩
    refine ⟨((rd_T48 l r0).f1, true), ?_, ?_⟩
    · unfold spec_TempoAt.f
      refine tbind (teGood_tot l hl) (fun b hb => tpos (hb.2 hg) ?_)
      simp only [teStep_eq, Option.bind_some, decide_eq_true_eq]
      refine tpos hs ?_
      refine tbind h1 (fun _ e => ?_); subst e
      exact tpos hi0.1 (tpos hi0.2.1 (tsome rfl))
    · unfold impl_TempoAt.f
      refine tbind (areTempos_tot l hl) (fun b hb => tpos (hb.2 hg) ?_)
      simp only [isTempoStep_eq, Option.bind_some, decide_eq_true_eq]
      refine tpos hs ?_
      refine tbind (implTempoAt_tot l hg s r0 hi0) (fun _ e => ?_); subst e
      exact tsome rfl
  · refine ⟨(0, false), ?_, ?_⟩
    · unfold spec_TempoAt.f
      refine tbind (teGood_tot l hl) (fun b hb => tite (fun c => ?_) (fun c => tsome rfl))
      simp only [teStep_eq, Option.bind_some, decide_eq_true_eq]
      exact tneg (fun h => hg ⟨hb.1 c, h⟩) (tsome rfl)
    · unfold impl_TempoAt.f
      refine tbind (areTempos_tot l hl) (fun b hb => tite (fun c => ?_) (fun c => tsome rfl))
      simp only [isTempoStep_eq, Option.bind_some, decide_eq_true_eq]
      exact tneg (fun h => hg ⟨hb.1 c, h⟩) (tsome rfl)

theorem l1Least_eq (a b : Int) : spec_l1Least.f a b = some (mn a b) := by
  unfold spec_l1Least.f mn
  by_cases h : a < b
  · rw [if_pos h, if_neg (by omega)]
  · rw [if_neg h]
    by_cases h2 : b < a
    · rw [if_pos h2]
    · rw [if_neg h2]
      congr 1; omega
theorem timeSame (k : Nat) : ∀ (l : List S48) (s t : Int) (l2 : List S48) (n i : Int), impl_timeOf.l0 k l s t l2 n i = spec_teTime.l0 k l s t l2 n i := by
  induction k with
  | zero => intros; rfl
  | succ k ih =>
    intro l s t l2 n i
    simp only [impl_timeOf.l0, spec_teTime.l0, ih, l1Least_eq, Option.bind_some]
theorem timeSameF (k : Nat) (l : List S48) (s : Int) : impl_timeOf.f k l s = spec_teTime.f k l s := by
  unfold impl_timeOf.f spec_teTime.f
  exact timeSame k l s 0 l _ 0

def seg (l : List S48) (s i : Int) : Int :=
  if i + 1 < (l.length : Int) then (if mn s (rd_T48 l (i + 1)).f0 > (rd_T48 l i).f0 then (mn s (rd_T48 l (i + 1)).f0 - (rd_T48 l i).f0) * (rd_T48 l i).f1 else 0)
  else (if s > (rd_T48 l i).f0 then (s - (rd_T48 l i).f0) * (rd_T48 l i).f1 else 0)
def tmUpto (l : List S48) (s : Int) : Nat → Int
  | 0 => 0
  | i + 1 => tmUpto l s i + seg l s i
def tm (l : List S48) (s : Int) : Int := tmUpto l s l.length
theorem mul_bounds {a b : Int} (a0 : 0 ≤ a) (a1 : a ≤ 2000) (b0 : 1000 ≤ b) (b1 : b ≤ 1000000) : 0 ≤ a * b ∧ a * b ≤ 2000000000 := by
  have h1 : a * b ≤ 2000 * b := Int.mul_le_mul_of_nonneg_right a1 (by omega)
  have h2 : 0 ≤ a * b := Int.mul_nonneg a0 (by omega)
  omega
theorem seg_bounds (l : List S48) (hg : TeGood l) (s i : Int) (s1 : s ≤ 2000) (i0 : 0 ≤ i) (i1 : i < (l.length : Int)) : 0 ≤ seg l s i ∧ seg l s i ≤ 2000000000 := by
  have h := (hg.1 i i0 i1).1
  unfold OkChange at h
  unfold seg
  split
  · rename_i c
    have h2 := (hg.1 (i + 1) (by omega) c).1
    unfold OkChange at h2
    split
    · rename_i c2
      have hmn : mn s (rd_T48 l (i + 1)).f0 ≤ 2000 := by unfold mn; split <;> omega
      exact mul_bounds (by omega) (by omega) h.2.2.1 h.2.2.2
    · omega
  · split
    · exact mul_bounds (by omega) (by omega) h.2.2.1 h.2.2.2
    · omega
theorem tmUpto_bounds (l : List S48) (hg : TeGood l) (s : Int) (s1 : s ≤ 2000) : ∀ i : Nat, i ≤ l.length → 0 ≤ tmUpto l s i ∧ tmUpto l s i ≤ 2000000000 * (i : Int) := by
  intro i
  induction i with
  | zero => intro _; simp [tmUpto]
  | succ i ih =>
    intro hi
    have h1 := ih (by omega)
    have h2 := seg_bounds l hg s i s1 (by omega) (by omega)
    unfold tmUpto
    omega
theorem tm_bounds (l : List S48) (hg : TeGood l) (s : Int) (s1 : s ≤ 2000) : 0 ≤ tm l s ∧ tm l s ≤ 40000000000 := by
  have h := tmUpto_bounds l hg s s1 l.length (Nat.le_refl _)
  have := hg.2
  unfold tm
  omega
theorem l1LeastMn_eq (a b : Int) : spec_l1Least.f a b = some (mn a b) := by
  unfold spec_l1Least.f mn
  by_cases h : a < b
  · rw [if_pos h, if_neg (by omega)]
  · rw [if_neg h]
    by_cases h2 : b < a
    · rw [if_pos h2]
    · rw [if_neg h2]
      congr 1; omega
theorem teTime_tot (l : List S48) (hg : TeGood l) (s : Int) (s0 : 0 ≤ s) (s1 : s ≤ 2000) : Tot (fun k => spec_teTime.f k l s) (fun r => r = tm l s) := by
  have hn := hg.2
  unfold spec_teTime.f
  refine trec (σ := Nat) (fun i k => spec_teTime.l0 k l s (tmUpto l s i) l (l.length : Int) (i : Int)) (fun i => l.length - i) (fun i => i ≤ l.length) (fun _ r => r = tm l s) ?_ 0 (Nat.zero_le _)
  intro i hi ih
  simp only [spec_teTime.l0, l1LeastMn_eq, Option.bind_some, wrap64_id (x := (i : Int) + 1) (by omega) (by omega)]
  refine tite (fun c => ?_) (fun c => tsome (by unfold tm; rw [show i = l.length by omega]))
  refine tpos (by omega) (tpos c ?_)
  have hb := tmUpto_bounds l hg s s1 i hi
  have hs := seg_bounds l hg s i s1 (by omega) c
  have h := (hg.1 i (by omega) c).1
  unfold OkChange at h
  have hstep : tmUpto l s (i + 1) = tmUpto l s i + seg l s i := rfl
  have go : ∀ x : Int, x = tmUpto l s (i + 1) → Tot (fun k => spec_teTime.l0 k l s x l (l.length : Int) ((i : Int) + 1)) (fun r => r = tm l s) := by
    intro x e
    rw [e]
    have := ih (i + 1) (by omega) (by omega)
    simpa using this
  refine tite (fun c2 => ?_) (fun c2 => ?_)
  · refine tpos (by omega) ?_
    have h2 := (hg.1 (i + 1) (by omega) c2).1
    unfold OkChange at h2
    refine tite (fun c3 => ?_) (fun c3 => ?_)
    · have e : seg l s i = (mn s (rd_T48 l ((i : Int) + 1)).f0 - (rd_T48 l i).f0) * (rd_T48 l i).f1 := by
        unfold seg; rw [if_pos c2, if_pos c3]
      have hmn : mn s (rd_T48 l ((i : Int) + 1)).f0 ≤ 2000 := by unfold mn; split <;> omega
      rw [wrap64_id (x := mn s (rd_T48 l ((i : Int) + 1)).f0 - (rd_T48 l i).f0) (by omega) (by omega), ← e, wrap64_id (x := seg l s i) (by omega) (by omega), wrap64_id (by omega) (by omega)]
      exact go _ hstep.symm
    · have e : seg l s i = 0 := by unfold seg; rw [if_pos c2, if_neg c3]
      exact go _ (by omega)
  · refine tite (fun c3 => ?_) (fun c3 => ?_)
    · have e : seg l s i = (s - (rd_T48 l i).f0) * (rd_T48 l i).f1 := by
        unfold seg; rw [if_neg c2, if_pos c3]
      rw [wrap64_id (x := s - (rd_T48 l i).f0) (by omega) (by omega), ← e, wrap64_id (x := seg l s i) (by omega) (by omega), wrap64_id (by omega) (by omega)]
      exact go _ hstep.symm
    · have e : seg l s i = 0 := by unfold seg; rw [if_neg c2, if_neg c3]
      exact go _ (by omega)
theorem mul_mono {a b c : Int} (h : a ≤ b) (hc : 1000 ≤ c) : a * c ≤ b * c := Int.mul_le_mul_of_nonneg_right h (by omega)
theorem seg_mono (l : List S48) (hg : TeGood l) (s s' i : Int) (h : s ≤ s') (i0 : 0 ≤ i) (i1 : i < (l.length : Int)) : seg l s i ≤ seg l s' i := by
  have hc := (hg.1 i i0 i1).1
  unfold OkChange at hc
  have hp : ∀ x y : Int, x ≤ y → (if x > (rd_T48 l i).f0 then (x - (rd_T48 l i).f0) * (rd_T48 l i).f1 else 0) ≤ (if y > (rd_T48 l i).f0 then (y - (rd_T48 l i).f0) * (rd_T48 l i).f1 else 0) := by
    intro x y hxy
    by_cases h1 : x > (rd_T48 l i).f0
    · rw [if_pos h1, if_pos (by omega)]
      exact mul_mono (by omega) hc.2.2.1
    · rw [if_neg h1]
      split
      · exact Int.mul_nonneg (by omega) (by omega)
      · exact Int.le_refl _
  unfold seg
  split
  · exact hp _ _ (by unfold mn; split <;> split <;> omega)
  · exact hp _ _ h
theorem tm_mono (l : List S48) (hg : TeGood l) (s s' : Int) (h : s ≤ s') : tm l s ≤ tm l s' := by
  have key : ∀ i : Nat, i ≤ l.length → tmUpto l s i ≤ tmUpto l s' i := by
    intro i
    induction i with
    | zero => intro _; exact Int.le_refl _
    | succ i ih =>
      intro hi
      have h1 := ih (by omega)
      have h2 := seg_mono l hg s s' i h (by omega) (by omega)
      unfold tmUpto
      omega
  exact key _ (Nat.le_refl _)
theorem tm_zero (l : List S48) (hg : TeGood l) : tm l 0 = 0 := by
  have key : ∀ i : Nat, i ≤ l.length → tmUpto l 0 i = 0 := by
    intro i
    induction i with
    | zero => intro _; rfl
    | succ i ih =>
      intro hi
      have hc := (hg.1 i (by omega) (by omega)).1
      unfold OkChange at hc
      have h2 : seg l 0 i = 0 := by
        unfold seg
        split
        · rw [if_neg]
          unfold mn; split <;> omega
        · rw [if_neg (by omega)]
      unfold tmUpto
      rw [ih (by omega), h2]; rfl
  exact key _ (Nat.le_refl _)

theorem timeOf_tot (l : List S48) (hg : TeGood l) (s : Int) (s0 : 0 ≤ s) (s1 : s ≤ 2000) : Tot (fun k => impl_timeOf.f k l s) (fun r => r = tm l s) := by
  simp only [timeSameF]
  exact teTime_tot l hg s s0 s1

theorem timeOf_agree (l : List S48) (s : Int) (hl : l.length ≤ 1048576) : ∃ r, Tot (fun k => spec_TimeOf.f k l s) (fun y => y = r) ∧ Tot (fun k => impl_TimeOf.f k l s) (fun y => y = r) := by
  by_cases hg : TeGood l ∧ 0 ≤ s ∧ s ≤ 2000
  · obtain ⟨hg, hs⟩ := hg
    refine ⟨(tm l s, true), ?_, ?_⟩
    · unfold spec_TimeOf.f
      refine tbind (teGood_tot l hl) (fun b hb => tpos (hb.2 hg) ?_)
      simp only [teStep_eq, Option.bind_some, decide_eq_true_eq]
      refine tpos hs ?_
      refine tbind (teTime_tot l hg s hs.1 hs.2) (fun _ e => ?_); subst e
      exact tsome rfl
    · unfold impl_TimeOf.f
      refine tbind (areTempos_tot l hl) (fun b hb => tpos (hb.2 hg) ?_)
      simp only [isTempoStep_eq, Option.bind_some, decide_eq_true_eq]
      refine tpos hs ?_
      refine tbind (timeOf_tot l hg s hs.1 hs.2) (fun _ e => ?_); subst e
      exact tsome rfl
  · refine ⟨(0, false), ?_, ?_⟩
    · unfold spec_TimeOf.f
      refine tbind (teGood_tot l hl) (fun b hb => tite (fun c => ?_) (fun c => tsome rfl))
      simp only [teStep_eq, Option.bind_some, decide_eq_true_eq]
      exact tneg (fun h => hg ⟨hb.1 c, h⟩) (tsome rfl)
    · unfold impl_TimeOf.f
      refine tbind (areTempos_tot l hl) (fun b hb => tite (fun c => ?_) (fun c => tsome rfl))
      simp only [isTempoStep_eq, Option.bind_some, decide_eq_true_eq]
      exact tneg (fun h => hg ⟨hb.1 c, h⟩) (tsome rfl)

def StepOf (l : List S48) (t s : Int) : Prop := 0 ≤ s ∧ s ≤ 2000 ∧ tm l s ≤ t ∧ (s < 2000 → t < tm l (s + 1))
theorem StepOf.det {l : List S48} (hg : TeGood l) {t s s' : Int} (h : StepOf l t s) (h' : StepOf l t s') : s = s' := by
  obtain ⟨a, b, c, d⟩ := h
  obtain ⟨a', b', c', d'⟩ := h'
  rcases Int.lt_trichotomy s s' with g | g | g
  · have := tm_mono l hg (s + 1) s' (by omega)
    have := d (by omega)
    omega
  · exact g
  · have := tm_mono l hg (s' + 1) s (by omega)
    have := d' (by omega)
    omega
theorem specStep_tot (l : List S48) (hg : TeGood l) (t : Int) (t0 : 0 ≤ t) : Tot (fun k => spec_StepAtTime.l0 k l t 0) (fun r => ∃ s, r = (s, true) ∧ StepOf l t s) := by
  refine trec (σ := Int) (fun s k => spec_StepAtTime.l0 k l t s) (fun s => (2000 - s).toNat) (fun s => 0 ≤ s ∧ s ≤ 2000 ∧ tm l s ≤ t) (fun _ r => ∃ s, r = (s, true) ∧ StepOf l t s) ?_ 0 ⟨Int.le_refl _, by omega, by rw [tm_zero l hg]; exact t0⟩
  rintro s ⟨h0, h1, h2⟩ ih
  simp only [spec_StepAtTime.l0, wrap64_id (x := s + 1) (by omega) (by omega)]
  refine tite (fun c => ?_) (fun c => tsome ⟨s, rfl, h0, h1, h2, fun h => absurd h c⟩)
  refine tbind (teTime_tot l hg (s + 1) (by omega) (by omega)) (fun _ e => ?_); subst e
  exact tite (fun c2 => ih (s + 1) ⟨by omega, by omega, c2⟩ (by (try dsimp only); omega)) (fun c2 => tsome ⟨s, rfl, h0, h1, h2, fun _ => by omega⟩)
theorem implStep_tot (l : List S48) (hg : TeGood l) (t : Int) (t0 : 0 ≤ t) : Tot (fun k => impl_StepAtTime.l0 k l t 0 2000) (fun r => ∃ s, r = (s, true) ∧ StepOf l t s) := by
  refine trec (σ := Int × Int) (fun s k => impl_StepAtTime.l0 k l t s.1 s.2) (fun s => (s.2 - s.1).toNat) (fun s => 0 ≤ s.1 ∧ s.1 ≤ s.2 ∧ s.2 ≤ 2000 ∧ tm l s.1 ≤ t ∧ (s.2 < 2000 → t < tm l (s.2 + 1))) (fun _ r => ∃ s, r = (s, true) ∧ StepOf l t s) ?_ (0, 2000) ⟨Int.le_refl _, by dsimp only; omega, Int.le_refl _, by dsimp only; rw [tm_zero l hg]; exact t0, fun h => by dsimp only at h; omega⟩
  rintro ⟨a, b⟩ ⟨h0, h1, h2, h3, h4⟩ ih
  dsimp only at h0 h1 h2 h3 h4
  have hm : Int.tdiv (a + b + 1) 2 = (a + b + 1) / 2 := Int.tdiv_eq_ediv_of_nonneg (by omega)
  simp only [impl_StepAtTime.l0, wrap64_id (x := a + b) (by omega) (by omega), wrap64_id (x := a + b + 1) (by omega) (by omega), hm, wrap64_id (x := (a + b + 1) / 2) (by omega) (by omega), wrap64_id (x := (a + b + 1) / 2 - 1) (by omega) (by omega)]
  refine tite (fun c => ?_) (fun c => tsome ⟨a, rfl, h0, by omega, h3, fun h => by rw [show a = b by omega]; exact h4 (by omega)⟩)
  refine tbind (timeOf_tot l hg ((a + b + 1) / 2) (by omega) (by omega)) (fun _ e => ?_); subst e
  refine tite (fun c2 => ih ((a + b + 1) / 2, b) ⟨by dsimp only; omega, by dsimp only; omega, h2, c2, h4⟩ (by dsimp only; omega)) (fun c2 => ih (a, (a + b + 1) / 2 - 1) ⟨h0, by dsimp only; omega, by dsimp only; omega, h3, fun _ => ?_⟩ (by dsimp only; omega))
  dsimp only
  rw [show (a + b + 1) / 2 - 1 + 1 = (a + b + 1) / 2 by omega]
  omega
theorem stepAtTime_agree (l : List S48) (t : Int) (hl : l.length ≤ 1048576) : ∃ r, Tot (fun k => spec_StepAtTime.f k l t) (fun y => y = r) ∧ Tot (fun k => impl_StepAtTime.f k l t) (fun y => y = r) := by
  have sF : Tot (fun k => spec_StepAtTime.j0 k l t true) (fun y => y = (0, false)) := by
    refine tstep ?_
    simp only [spec_StepAtTime.j0, if_true]
    exact tsome rfl
  have iF : Tot (fun k => impl_StepAtTime.j0 k l t true) (fun y => y = (0, false)) := by
    refine tstep ?_
    simp only [impl_StepAtTime.j0, if_true]
    exact tsome rfl
  by_cases hg : TeGood l ∧ 0 ≤ t
  · obtain ⟨hg, t0⟩ := hg
    obtain ⟨r, hr, s, rfl, hs⟩ := specStep_tot l hg t t0
    refine ⟨(s, true), ?_, ?_⟩
    · unfold spec_StepAtTime.f
      refine tbind (teGood_tot l hl) (fun b hb => tpos (hb.2 hg) ?_)
      rw [decide_eq_false (show ¬ t < 0 by omega)]
      refine tstep ?_
      simp only [spec_StepAtTime.j0]
      exact tneg (by simp) ⟨_, hr, rfl⟩
    · unfold impl_StepAtTime.f
      refine tbind (areTempos_tot l hl) (fun b hb => tpos (hb.2 hg) ?_)
      rw [decide_eq_false (show ¬ t < 0 by omega)]
      refine tstep ?_
      simp only [impl_StepAtTime.j0]
      refine tneg (by simp) (tmono (implStep_tot l hg t t0) (fun y hy => ?_))
      obtain ⟨s', e, hs'⟩ := hy
      rw [e, hs'.det hg hs]
  · refine ⟨(0, false), ?_, ?_⟩
    · unfold spec_StepAtTime.f
      refine tbind (teGood_tot l hl) (fun b hb => tite (fun c => ?_) (fun c => sF))
      rw [decide_eq_true (show t < 0 from Classical.byContradiction fun h => hg ⟨hb.1 c, by omega⟩)]
      exact sF
    · unfold impl_StepAtTime.f
      refine tbind (areTempos_tot l hl) (fun b hb => tite (fun c => ?_) (fun c => iF))
      rw [decide_eq_true (show t < 0 from Classical.byContradiction fun h => hg ⟨hb.1 c, by omega⟩)]
      exact iF

def TeTwo (l : List S48) (a b : Int) : Prop := TeGood l ∧ (0 ≤ a ∧ a ≤ 2000) ∧ (0 ≤ b ∧ b ≤ 2000) ∧ a ≤ b
theorem teTwo_tot (l : List S48) (a b : Int) (hl : l.length ≤ 1048576) : Tot (fun k => spec_teTwo.f k l a b) (fun r => (r = true) ↔ TeTwo l a b) := by
  unfold spec_teTwo.f
  refine tbind (teGood_tot l hl) (fun x hx => ?_)
  simp only [teStep_eq, Option.bind_some, decide_eq_true_eq]
  refine tite (fun c1 => ?_) (fun c1 => tsome ⟨(fun h => by simp at h), (fun h => absurd (hx.2 h.1) c1)⟩)
  refine tite (fun c2 => ?_) (fun c2 => tsome ⟨(fun h => by simp at h), (fun h => absurd h.2.1 c2)⟩)
  refine tite (fun c3 => ?_) (fun c3 => tsome ⟨(fun h => by simp at h), (fun h => absurd h.2.2.1 c3)⟩)
  exact tsome (by simp only [decide_eq_true_eq]; exact ⟨fun h => ⟨hx.1 c1, c2, c3, h⟩, fun h => h.2.2.2⟩)
theorem implBetween_tot (l : List S48) (a b : Int) (hl : l.length ≤ 1048576) : Tot (fun k => impl_TimeBetween.f k l a b) (fun r => (TeTwo l a b ∧ r = (tm l b - tm l a, true)) ∨ (¬ TeTwo l a b ∧ r = (0, false))) := by
  have iF : ¬ TeTwo l a b → Tot (fun k => impl_TimeBetween.j0 k l a b true) (fun r => (TeTwo l a b ∧ r = (tm l b - tm l a, true)) ∨ (¬ TeTwo l a b ∧ r = (0, false))) := by
    intro h
    refine tstep ?_
    simp only [impl_TimeBetween.j0, if_true]
    exact tsome (.inr ⟨h, rfl⟩)
  unfold impl_TimeBetween.f
  refine tbind (areTempos_tot l hl) (fun x hx => ?_)
  simp only [isTempoStep_eq, Option.bind_some, decide_eq_true_eq]
  refine tite (fun c1 => ?_) (fun c1 => iF (fun h => c1 (hx.2 h.1)))
  refine tite (fun c2 => ?_) (fun c2 => iF (fun h => c2 h.2.1))
  refine tite (fun c3 => ?_) (fun c3 => iF (fun h => c3 h.2.2.1))
  by_cases c4 : a > b
  · rw [decide_eq_true c4]
    exact iF (fun h => by have := h.2.2.2; omega)
  · rw [decide_eq_false c4]
    have hg := hx.1 c1
    refine tstep ?_
    simp only [impl_TimeBetween.j0]
    refine tneg (by simp) ?_
    refine tbind (timeOf_tot l hg b c3.1 c3.2) (fun _ e => ?_); subst e
    refine tbind (timeOf_tot l hg a c2.1 c2.2) (fun _ e => ?_); subst e
    have h1 := tm_bounds l hg a c2.2
    have h2 := tm_bounds l hg b c3.2
    exact tsome (.inl ⟨⟨hg, c2, c3, by omega⟩, by rw [wrap64_id (by omega) (by omega)]⟩)

theorem timeBetween_agree (l : List S48) (a b : Int) (hl : l.length ≤ 1048576) : ∃ r, Tot (fun k => spec_TimeBetween.f k l a b) (fun y => y = r) ∧ Tot (fun k => impl_TimeBetween.f k l a b) (fun y => y = r) := by
  by_cases h : TeTwo l a b
  · refine ⟨(tm l b - tm l a, true), ?_, tmono (implBetween_tot l a b hl) (fun y hy => hy.elim (fun z => z.2) (fun z => absurd h z.1))⟩
    unfold spec_TimeBetween.f
    refine tbind (teTwo_tot l a b hl) (fun x hx => tpos (hx.2 h) ?_)
    refine tbind (teTime_tot l h.1 b h.2.2.1.1 h.2.2.1.2) (fun _ e => ?_); subst e
    refine tbind (teTime_tot l h.1 a h.2.1.1 h.2.1.2) (fun _ e => ?_); subst e
    have h1 := tm_bounds l h.1 a h.2.1.2
    have h2 := tm_bounds l h.1 b h.2.2.1.2
    exact tsome (by rw [wrap64_id (by omega) (by omega)])
  · refine ⟨(0, false), ?_, tmono (implBetween_tot l a b hl) (fun y hy => hy.elim (fun z => absurd z.1 h) (fun z => z.2))⟩
    unfold spec_TimeBetween.f
    exact tbind (teTwo_tot l a b hl) (fun x hx => tneg (fun g => h (hx.1 g)) (tsome rfl))

def inpl {α : Type} (f : α → α) (l : List α) (i : Nat) : List α := (l.take i).map f ++ l.drop i
theorem inpl_len {α : Type} (f : α → α) (l : List α) (i : Nat) (h : i ≤ l.length) : (inpl f l i).length = l.length := by
  unfold inpl; simp; omega
theorem inpl_zero {α : Type} (f : α → α) (l : List α) : inpl f l 0 = l := by simp [inpl]
theorem inpl_end {α : Type} (f : α → α) (l : List α) : inpl f l l.length = l.map f := by simp [inpl]
theorem inpl_at {α : Type} (z : α) (f : α → α) (l : List α) (i : Nat) (h : i < l.length) : (inpl f l i).getD i z = l.getD i z := by
  unfold inpl
  have h1 : ((l.take i).map f).length = i := by simp; omega
  rw [List.getD, List.getElem?_append_right (by omega), h1, Nat.sub_self]
  simp [List.getD, h]
theorem inpl_set {α : Type} (z : α) (f : α → α) (l : List α) (i : Nat) (h : i < l.length) : (inpl f l i).set i (f (l.getD i z)) = inpl f l (i + 1) := by
  unfold inpl
  have h1 : ((l.take i).map f).length = i := by simp; omega
  rw [List.set_append_right _ _ (by omega), h1, Nat.sub_self, List.drop_eq_getElem_cons h, List.set_cons_zero, List.take_succ_eq_append_getElem h, List.map_append, List.append_assoc]
  simp [List.getD, h]
theorem take_up {α β : Type} (z : α) (f : α → β) (l : List α) (i : Nat) (h : i < l.length) : (l.take (i + 1)).map f = (l.take i).map f ++ [f (l.getD i z)] := by
  rw [List.take_succ_eq_append_getElem h, List.map_append]
  simp [List.getD, h]

theorem cloneChange (l : List S48) (hl : l.length ≤ 1048576) : clone_Change.f l = some l := by
  unfold clone_Change.f
  simp only [Option.bind_some]
  rw [if_pos (by simp; omega)]
  rfl

def scPost (l : List S48) (r : List S48 × Bool) : Prop := (TeGood l ∧ r = (l, true)) ∨ (¬ TeGood l ∧ r = ([], false))
theorem scPost.det {l : List S48} {r r' : List S48 × Bool} (h : scPost l r) (h' : scPost l r') : r = r' := by
  rcases h with ⟨x, e⟩ | ⟨x, e⟩ <;> rcases h' with ⟨x', e'⟩ | ⟨x', e'⟩
  · rw [e, e']
  · exact absurd x x'
  · exact absurd x' x
  · rw [e, e']
theorem teIf_tot (l : List S48) (hl : l.length ≤ 1048576) : Tot (fun k => spec_teIf.f k l) (fun r => scPost l r) := by
  unfold spec_teIf.f
  exact tbind (teGood_tot l hl) (fun b hb => tite (fun c => tsome (.inl ⟨hb.1 c, rfl⟩)) (fun c => tsome (.inr ⟨fun h => c (hb.2 h), rfl⟩)))

theorem tlet {α β : Type} {v : α} {g : Nat → α → Option β} {Q : β → Prop} (h : Tot (fun k => g k v) Q) : Tot (fun k => (some v).bind fun y => g k y) Q := h
theorem take_drop_erase {α : Type} (l : List α) (m : Nat) : l.take m ++ l.drop (m + 1) = l.eraseIdx m := (List.eraseIdx_eq_take_drop_succ l m).symm
theorem wrapN1 (m : Nat) (h : m ≤ 1048576) : wrap64 ((m : Int) + 1) = ((m + 1 : Nat) : Int) := by rw [wrap64_id (by omega) (by omega)]; rfl
theorem erase_len {α : Type} (l : List α) (m : Nat) (h : l.length ≤ 1048576) : (l.eraseIdx m).length ≤ 1048576 := Nat.le_trans (List.length_eraseIdx_le l m) h

theorem split_ex (l : List S48) (s : Int) : ∀ n : Nat, n ≤ l.length → ∃ a : Nat, a ≤ n ∧ (∀ j : Nat, j < a → (rd_T48 l j).f0 < s) ∧ (a < n → ¬ (rd_T48 l a).f0 < s)
  | 0, _ => ⟨0, Nat.le_refl _, fun j hj => by omega, fun h => by omega⟩
  | n + 1, h => by
    obtain ⟨a, h1, h2, h3⟩ := split_ex l s n (by omega)
    by_cases e : a = n ∧ (rd_T48 l n).f0 < s
    · obtain ⟨rfl, e⟩ := e
      refine ⟨a + 1, Nat.le_refl _, fun j hj => ?_, fun h => by omega⟩
      by_cases q : j = a
      · rw [q]; exact e
      · exact h2 j (by omega)
    · refine ⟨a, by omega, h2, fun hlt => ?_⟩
      by_cases q : a < n
      · exact h3 q
      · obtain rfl : a = n := by omega
        exact fun hh => e ⟨rfl, hh⟩
def AddAt (l : List S48) (s : Int) (a b : Nat) : Prop := a ≤ l.length ∧ a ≤ b ∧ b ≤ a + 1 ∧ b ≤ l.length ∧ (∀ j : Nat, j < a → (rd_T48 l j).f0 < s) ∧ (∀ j : Nat, a ≤ j → j < b → (rd_T48 l j).f0 = s) ∧ (∀ j : Nat, b ≤ j → j < l.length → s < (rd_T48 l j).f0)
theorem addAt_ex (l : List S48) (hg : TeGood l) (s : Int) : ∃ a b : Nat, AddAt l s a b := by
  obtain ⟨a, h1, h2, h3⟩ := split_ex l s l.length (Nat.le_refl _)
  by_cases e : a < l.length ∧ (rd_T48 l a).f0 = s
  · refine ⟨a, a + 1, h1, by omega, Nat.le_refl _, by omega, h2, fun j hj hj2 => by rw [show j = a by omega]; exact e.2, fun j hj hj2 => ?_⟩
    have m := te_mono l hg a ((j : Int) - 1) (by omega) (by omega) (by omega)
    have c := (hg.1 j (by omega) (by omega)).2.2 (by omega)
    omega
  · refine ⟨a, a, h1, Nat.le_refl _, by omega, h1, h2, fun j hj hj2 => by omega, fun j hj hj2 => ?_⟩
    have m := te_mono l hg a j (by omega) (by omega) (by omega)
    have c := h3 (by omega)
    have e2 : ¬ (rd_T48 l a).f0 = s := fun h => e ⟨by omega, h⟩
    omega
def addRes (l : List S48) (x : S48) (a b : Nat) : List S48 := l.take a ++ [x] ++ l.drop b
theorem addRes_len (l : List S48) (x : S48) (a b : Nat) (ha : a ≤ l.length) : (addRes l x a b).length = a + 1 + (l.length - b) := by
  unfold addRes
  simp only [List.length_append, List.length_take, List.length_drop, List.length_singleton]
  omega
theorem rd_lt (l : List S48) (x : S48) (a b : Nat) (ha : a ≤ l.length) (j : Nat) (h : j < a) : rd_T48 (addRes l x a b) j = rd_T48 l j := by
  unfold addRes rd_T48
  rw [List.append_assoc]
  have h1 : j < (l.take a).length := by rw [List.length_take]; omega
  simp [List.getD, List.getElem?_append_left h1, List.getElem?_take, h]
theorem rd_at (l : List S48) (x : S48) (a b : Nat) (ha : a ≤ l.length) : rd_T48 (addRes l x a b) a = x := by
  unfold addRes rd_T48
  rw [List.append_assoc]
  have h1 : (l.take a).length = a := by rw [List.length_take]; omega
  simp [List.getD, List.getElem?_append_right (show (l.take a).length ≤ a by omega), h1]
theorem rd_gt (l : List S48) (x : S48) (a b : Nat) (ha : a ≤ l.length) (j : Nat) : rd_T48 (addRes l x a b) ((a + 1 + j : Nat) : Int) = rd_T48 l ((b + j : Nat) : Int) := by
  unfold addRes rd_T48
  have h1 : (l.take a ++ [x]).length = a + 1 := by rw [List.length_append, List.length_take, List.length_singleton]; omega
  simp only [Int.toNat_natCast, List.getD]
  rw [List.getElem?_append_right (by omega), h1, List.getElem?_drop, show b + (a + 1 + j - (a + 1)) = b + j by omega]
theorem addRes_good (l : List S48) (hg : TeGood l) (x : S48) (hx : OkChange x) (a b : Nat) (h : AddAt l x.f0 a b) : TeGood (addRes l x a b) ↔ a + 1 + (l.length - b) ≤ 20 := by
  obtain ⟨h1, h2, h3, h4, h5, h6, h7⟩ := h
  have hlen := addRes_len l x a b h1
  constructor
  · intro hh
    have := hh.2.2
    omega
  · intro hle
    refine ⟨fun j j0 j1 => ?_, by omega, by omega⟩
    obtain ⟨m, rfl⟩ := Int.eq_ofNat_of_zero_le j0
    unfold TeC
    by_cases c1 : m < a
    · have ho := hg.1 m (by omega) (by omega)
      rw [rd_lt l x a b h1 m c1]
      refine ⟨ho.1, ho.2.1, fun hp => ?_⟩
      rw [show (m : Int) - 1 = ((m - 1 : Nat) : Int) by omega, rd_lt l x a b h1 (m - 1) (by omega), show ((m - 1 : Nat) : Int) = (m : Int) - 1 by omega]
      exact ho.2.2 hp
    · by_cases c2 : m = a
      · subst c2
        rw [rd_at l x m b h1]
        refine ⟨hx, fun e => ?_, fun hp => ?_⟩
        · have em : m = 0 := by omega
          subst em
          have z := (hg.1 0 (by omega) (by have := hg.2; omega)).2.1 rfl
          have hx0 := hx.1
          by_cases eb : b = 0
          · have := h7 0 (by omega) (by have := hg.2; omega)
            have e0 : ((0 : Nat) : Int) = 0 := rfl
            rw [e0] at this
            omega
          · have := h6 0 (by omega) (by omega)
            have e0 : ((0 : Nat) : Int) = 0 := rfl
            rw [e0] at this
            omega
        · rw [show (m : Int) - 1 = ((m - 1 : Nat) : Int) by omega, rd_lt l x m b h1 (m - 1) (by omega)]
          exact h5 (m - 1) (by omega)
      · obtain ⟨q, rfl⟩ : ∃ q, m = a + 1 + q := ⟨m - a - 1, by omega⟩
        have ho := hg.1 ((b + q : Nat) : Int) (by omega) (by omega)
        rw [rd_gt l x a b h1 q]
        refine ⟨ho.1, fun e => by omega, fun _ => ?_⟩
        by_cases c3 : q = 0
        · subst c3
          rw [show ((a + 1 + 0 : Nat) : Int) - 1 = (a : Int) by omega, rd_at l x a b h1]
          exact h7 (b + 0) (by omega) (by omega)
        · rw [show ((a + 1 + q : Nat) : Int) - 1 = ((a + 1 + (q - 1) : Nat) : Int) by omega, rd_gt l x a b h1 (q - 1), show ((b + (q - 1) : Nat) : Int) = ((b + q : Nat) : Int) - 1 by omega]
          exact ho.2.2 (by omega)
theorem take_snoc {α : Type} (z : α) (l : List α) (i : Nat) (h : i < l.length) : l.take (i + 1) = l.take i ++ [l.getD i z] := by
  rw [List.take_succ_eq_append_getElem h]
  simp [List.getD, h]
theorem specAdd1_tot (l : List S48) (hg : TeGood l) (s t : Int) (a b : Nat) (h : AddAt l s a b) : Tot (fun k => spec_AddTempo.l1 k (l.take a ++ [(⟨s, t⟩ : S48)]) l (l.length : Int) 0 s t) (fun r => scPost (addRes l ⟨s, t⟩ a b) r) := by
  obtain ⟨h1, h2, h3, h4, h5, h6, h7⟩ := h
  have hn := hg.2
  have key := trec (σ := Nat) (fun i k => spec_AddTempo.l1 k (l.take a ++ [(⟨s, t⟩ : S48)] ++ (l.take i).drop b) l (l.length : Int) (i : Int) s t) (fun i => l.length - i) (fun i => i ≤ l.length) (fun _ r => scPost (addRes l ⟨s, t⟩ a b) r) ?_ 0 (Nat.zero_le _)
  · simpa using key
  · intro i hi ih
    simp only [spec_AddTempo.l1, wrap64_id (x := (i : Int) + 1) (by omega) (by omega)]
    refine tite (fun c => ?_) (fun c => ?_)
    · refine tpos (by omega) (tpos c ?_)
      have hr := ih (i + 1) (by omega) (by omega)
      refine tite (fun c2 => ?_) (fun c2 => ?_)
      · have hb : b ≤ i := by
          refine Nat.le_of_not_lt fun hlt => ?_
          by_cases q : i < a
          · have := h5 i q; omega
          · have := h6 i (by omega) hlt; omega
        refine tpos (by simp; omega) ?_
        have e : (l.take (i + 1)).drop b = (l.take i).drop b ++ [rd_T48 l i] := by
          rw [take_snoc z48 l i (by omega), List.drop_append_of_le_length (by rw [List.length_take]; omega)]
          rfl
        rw [e] at hr
        simpa [List.append_assoc] using hr
      · have hb : i < b := by
          refine Nat.lt_of_not_le fun hle => ?_
          have := h7 i hle (by omega)
          omega
        have e1 : (l.take (i + 1)).drop b = [] := List.drop_eq_nil_of_le (by rw [List.length_take]; omega)
        have e2 : (l.take i).drop b = [] := List.drop_eq_nil_of_le (by rw [List.length_take]; omega)
        rw [e1] at hr
        rw [e2]
        simpa using hr
    · obtain rfl : i = l.length := by omega
      rw [List.take_length]
      have hl := addRes_len l ⟨s, t⟩ a b h1
      exact tbind (teIf_tot (addRes l ⟨s, t⟩ a b) (by omega)) (fun r hr => tsome hr)
theorem specAdd_tot (l : List S48) (hg : TeGood l) (s t : Int) (a b : Nat) (h : AddAt l s a b) : Tot (fun k => spec_AddTempo.l0 k l [] l (l.length : Int) 0 s t) (fun r => scPost (addRes l ⟨s, t⟩ a b) r) := by
  have hh := h
  obtain ⟨h1, h2, h3, h4, h5, h6, h7⟩ := h
  have hn := hg.2
  have key := trec (σ := Nat) (fun i k => spec_AddTempo.l0 k l (l.take (min i a)) l (l.length : Int) (i : Int) s t) (fun i => l.length - i) (fun i => i ≤ l.length) (fun _ r => scPost (addRes l ⟨s, t⟩ a b) r) ?_ 0 (Nat.zero_le _)
  · simpa using key
  · intro i hi ih
    simp only [spec_AddTempo.l0, wrap64_id (x := (i : Int) + 1) (by omega) (by omega)]
    refine tite (fun c => ?_) (fun c => ?_)
    · refine tpos (by omega) (tpos c ?_)
      have hr := ih (i + 1) (by omega) (by omega)
      refine tite (fun c2 => ?_) (fun c2 => ?_)
      · have hb : i < a := by
          refine Nat.lt_of_not_le fun hle => ?_
          by_cases q : i < b
          · have := h6 i hle q; omega
          · have := h7 i (by omega) (by omega); omega
        refine tpos (by rw [List.length_take]; omega) ?_
        have e : l.take (min (i + 1) a) = l.take (min i a) ++ [rd_T48 l i] := by
          rw [Nat.min_eq_left (by omega), Nat.min_eq_left (by omega), take_snoc z48 l i (by omega)]
          rfl
        rw [e] at hr
        simpa using hr
      · have hb : a ≤ i := by
          refine Nat.le_of_not_lt fun hlt => ?_
          have := h5 i hlt
          omega
        rw [Nat.min_eq_right (by omega)] at hr ⊢
        simpa using hr
    · rw [Nat.min_eq_right (by omega)]
      refine tpos (by rw [List.length_take]; omega) ?_
      exact specAdd1_tot l hg s t a b hh
theorem implAdd_tot (l : List S48) (hg : TeGood l) (s t : Int) (hx : OkChange ⟨s, t⟩) (a b : Nat) (h : AddAt l s a b) : Tot (fun k => impl_AddTempo.l0 k l 0 s t) (fun r => scPost (addRes l ⟨s, t⟩ a b) r) := by
  have hgood := addRes_good l hg ⟨s, t⟩ hx a b h
  obtain ⟨h1, h2, h3, h4, h5, h6, h7⟩ := h
  have hn := hg.2
  have j3T : a < l.length → (rd_T48 l a).f0 = s → Tot (fun k => impl_AddTempo.j3 k l (a : Int) true s t) (fun r => scPost (addRes l ⟨s, t⟩ a b) r) := by
    intro c e
    have hb : b = a + 1 := by
      refine Classical.byContradiction fun hne => ?_
      have := h7 a (by omega) c
      omega
    subst hb
    refine tstep ?_
    simp only [impl_AddTempo.j3, if_true]
    refine tpos (by omega) (tpos (by omega) (tsome (.inl ⟨hgood.2 (by omega), ?_⟩)))
    rw [Int.toNat_natCast, List.set_eq_take_append_cons_drop, if_pos c]
    simp [addRes]
  have j3F : ¬ (a < l.length ∧ (rd_T48 l a).f0 = s) → Tot (fun k => impl_AddTempo.j3 k l (a : Int) false s t) (fun r => scPost (addRes l ⟨s, t⟩ a b) r) := by
    intro c
    have hb : b = a := by
      refine Classical.byContradiction fun hne => c ⟨by omega, h6 a (Nat.le_refl _) (by omega)⟩
    subst hb
    refine tstep ?_
    simp only [impl_AddTempo.j3]
    refine tneg (by simp) (tite (fun c2 => tsome (.inr ⟨fun hh => by have := hgood.1 hh; omega, rfl⟩)) (fun c2 => ?_))
    have e : insert_Change.f l (b : Int) [(⟨s, t⟩ : S48)] = some (addRes l ⟨s, t⟩ b b) := by
      unfold insert_Change.f
      rw [if_pos (by omega), if_pos (by omega), if_pos (by simp), if_pos (by simp; omega), Int.toNat_natCast]
      rfl
    rw [e]
    simp only [Option.bind_some]
    exact tsome (.inl ⟨hgood.2 (by omega), rfl⟩)
  have j2 : Tot (fun k => impl_AddTempo.j2 k l (a : Int) s t) (fun r => scPost (addRes l ⟨s, t⟩ a b) r) := by
    refine tstep ?_
    simp only [impl_AddTempo.j2]
    refine tite (fun c => tpos (by omega) ?_) (fun c => j3F (fun h => c (by omega)))
    by_cases e : (rd_T48 l a).f0 = s
    · rw [show ((rd_T48 l a).f0 == s) = true from beq_iff_eq.2 e]
      exact j3T (by omega) e
    · rw [show ((rd_T48 l a).f0 == s) = false from beq_eq_false_iff_ne.2 e]
      exact j3F (fun h => e h.2)
  refine trec (σ := Nat) (fun i k => impl_AddTempo.l0 k l (i : Int) s t) (fun i => l.length - i) (fun i => i ≤ a) (fun _ r => scPost (addRes l ⟨s, t⟩ a b) r) ?_ 0 (Nat.zero_le _)
  intro i hi ih
  simp only [impl_AddTempo.l0, wrap64_id (x := (i : Int) + 1) (by omega) (by omega)]
  refine tite (fun c => ?_) (fun c => ?_)
  · refine tpos (by omega) (tite (fun c2 => ?_) (fun c2 => ?_))
    · have hb : i < a := by
        refine Nat.lt_of_not_le fun hle => ?_
        by_cases q : i < b
        · have := h6 i hle q; omega
        · have := h7 i (by omega) (by omega); omega
      have := ih (i + 1) (by omega) (by omega)
      simpa using this
    · have hb : i = a := by
        refine Classical.byContradiction fun hne => c2 (h5 i (by omega))
      subst hb
      exact j2
  · obtain rfl : i = a := by omega
    exact j2
theorem addTempo_agree (l : List S48) (s t : Int) (hl : l.length ≤ 1048576) : ∃ r, Tot (fun k => spec_AddTempo.f k l s t) (fun y => y = r) ∧ Tot (fun k => impl_AddTempo.f k l s t) (fun y => y = r) ∧ r.1.length ≤ 1048576 := by
  have sF : Tot (fun k => spec_AddTempo.j0 k l true s t) (fun y => y = ([], false)) := by
    refine tstep ?_
    simp only [spec_AddTempo.j0, if_true]
    exact tsome rfl
  have iF : Tot (fun k => impl_AddTempo.j0 k l true s t) (fun y => y = ([], false)) := by
    refine tstep ?_
    simp only [impl_AddTempo.j0, if_true]
    exact tsome rfl
  by_cases hg : TeGood l ∧ 0 ≤ s ∧ s ≤ 2000 ∧ 1000 ≤ t ∧ t ≤ 1000000
  · obtain ⟨hg, hx⟩ := hg
    obtain ⟨a, b, hab⟩ := addAt_ex l hg s
    obtain ⟨r, hr, hR⟩ := specAdd_tot l hg s t a b hab
    have hlen := addRes_len l ⟨s, t⟩ a b hab.1
    refine ⟨r, ?_, ?_, ?_⟩
    · unfold spec_AddTempo.f
      refine tbind (teGood_tot l hl) (fun bb h => tpos (h.2 hg) ?_)
      simp only [teChange_eq, Option.bind_some]
      rw [decide_eq_true hx, Bool.not_true]
      refine tstep ?_
      simp only [spec_AddTempo.j0]
      exact tneg (by simp) ⟨r, hr, rfl⟩
    · unfold impl_AddTempo.f
      refine tbind (areTempos_tot l hl) (fun bb h => tpos (h.2 hg) ?_)
      simp only [isChange_eq, Option.bind_some]
      rw [decide_eq_true hx, Bool.not_true]
      refine tstep ?_
      simp only [impl_AddTempo.j0, cloneChange l hl, Option.bind_some]
      exact tneg (by simp) (tmono (implAdd_tot l hg s t hx a b hab) (fun y hy => hy.det hR))
    · have hn := hg.2
      rcases hR with ⟨_, rfl⟩ | ⟨_, rfl⟩
      · have := hab.1; dsimp only; omega
      · simp
  · refine ⟨([], false), ?_, ?_, by simp⟩
    · unfold spec_AddTempo.f
      refine tbind (teGood_tot l hl) (fun b h => tite (fun c => ?_) (fun c => sF))
      simp only [teChange_eq, Option.bind_some]
      rw [decide_eq_false (fun hh => hg ⟨h.1 c, hh⟩), Bool.not_false]
      exact sF
    · unfold impl_AddTempo.f
      refine tbind (areTempos_tot l hl) (fun b h => tite (fun c => ?_) (fun c => iF))
      simp only [isChange_eq, Option.bind_some]
      rw [decide_eq_false (fun hh => hg ⟨h.1 c, hh⟩), Bool.not_false]
      exact iF

theorem u64r (x : Int) : 0 ≤ IntKind.u64.wrap x ∧ IntKind.u64.wrap x < 18446744073709551616 := by
  have h : IntKind.u64.wrap x = x % 18446744073709551616 := by first | rfl | (unfold IntKind.wrap; rfl) | simp [IntKind.wrap]
  rw [h]; omega
theorem and255 (x : Int) (h0 : 0 ≤ x) (h1 : x < 18446744073709551616) : 0 ≤ bits .and .u64 x 255 ∧ bits .and .u64 x 255 ≤ 255 := by
  obtain ⟨n, rfl⟩ := Int.eq_ofNat_of_zero_le h0
  have h := bits_and_u64_nat n 255 (by omega) (by omega)
  have h2 : n &&& 255 ≤ 255 := Nat.and_le_right
  rw [show ((255 : Nat) : Int) = 255 from rfl] at h
  rw [h]; omega
def Bytes (l : List Int) : Prop := (∀ x ∈ l, 0 ≤ x ∧ x ≤ 255) ∧ l.length ≤ 1048576
def StA (b : Nat) (a : Int) : Prop := 0 ≤ a ∧ a ≤ (b : Int) ∧ b ≤ 1000000
theorem StA.up {b c : Nat} {a : Int} (h : StA b a) (hbc : b ≤ c) (hc : c ≤ 1000000) : StA c a := ⟨h.1, by have := h.2.1; omega, hc⟩
theorem rd_byte (l : List Int) (h : Bytes l) (i : Int) : 0 ≤ rd l i ∧ rd l i ≤ 255 := by
  unfold rd
  rw [List.getD_eq_getElem?_getD]
  by_cases c : i.toNat < l.length
  · rw [List.getElem?_eq_getElem c]; exact h.1 _ (List.getElem_mem c)
  · rw [List.getElem?_eq_none (by omega)]; exact ⟨Int.le_refl _, by decide⟩
theorem draw_next (l : List Int) (hl : Bytes l) (b : Nat) (a s : Int) (h : StA b a) (hb : b + 1 ≤ 1000000) : ∃ v a' s', spec_l1Cur_next.f l a s = some (v, a', s') ∧ (0 ≤ v ∧ v ≤ 255) ∧ StA (b + 1) a' := by
  have hw : wrap64 (a + 1) = a + 1 := wrap64_id (by have := h.1; omega) (by have := h.2.1; omega)
  have hS : StA (b + 1) (a + 1) := ⟨by have := h.1; omega, by have := h.2.1; omega, hb⟩
  have hr := rd_byte l hl a
  have hwr : wrap64 (rd l a) = rd l a := wrap64_id (by omega) (by omega)
  have hx : ∀ x : Int, 0 ≤ wrap64 (bits .and .u64 (IntKind.u64.wrap x / 1099511627776) 255) ∧ wrap64 (bits .and .u64 (IntKind.u64.wrap x / 1099511627776) 255) ≤ 255 := fun x => by
    have h1 := u64r x
    have h2 := and255 (IntKind.u64.wrap x / 1099511627776) (by omega) (by omega)
    rw [wrap64_id (by omega) (by omega)]; exact h2
  unfold spec_l1Cur_next.f
  rw [hw]
  by_cases c1 : a < (l.length : Int)
  · rw [if_pos c1, if_pos h.1]
    by_cases c2 : a + 1 ≤ (l.length : Int)
    · rw [if_pos c2]; exact ⟨_, _, _, rfl, by rw [hwr]; exact hr, hS⟩
    · rw [if_neg c2]; exact ⟨_, _, _, rfl, hx _, hS⟩
  · rw [if_neg c1]
    by_cases c2 : a + 1 ≤ (l.length : Int)
    · rw [if_pos c2]; exact ⟨_, _, _, rfl, ⟨Int.le_refl _, by decide⟩, hS⟩
    · rw [if_neg c2]; exact ⟨_, _, _, rfl, hx _, hS⟩
theorem draw_pick (l : List Int) (hl : Bytes l) (b : Nat) (a s n : Int) (h : StA b a) (hb : b + 2 ≤ 1000000) : ∃ v a' s', spec_l1Cur_pick.f l a s n = some (v, a', s') ∧ (0 ≤ v ∧ (v = 0 ∨ v < n)) ∧ StA (b + 2) a' := by
  unfold spec_l1Cur_pick.f
  by_cases c1 : n ≤ 1
  · rw [if_pos c1]; exact ⟨_, _, _, rfl, ⟨Int.le_refl _, Or.inl rfl⟩, h.up (by omega) hb⟩
  · rw [if_neg c1]
    obtain ⟨v, a', s', e, hv, h'⟩ := draw_next l hl b a s h (by omega)
    rw [e, Option.bind_some]
    by_cases c2 : n > 200
    · rw [if_pos c2]
      obtain ⟨v2, a2, s2, e2, hv2, h2⟩ := draw_next l hl (b + 1) a' s' h' (by omega)
      rw [e2, Option.bind_some, if_neg (by omega)]
      have hw1 : wrap64 (v * 256) = v * 256 := wrap64_id (by omega) (by omega)
      have hw2 : wrap64 (v * 256 + v2) = v * 256 + v2 := wrap64_id (by omega) (by omega)
      refine ⟨_, _, _, rfl, ?_, h2⟩
      simp only [hw1, hw2]
      exact ⟨Int.tmod_nonneg _ (by omega), Or.inr (Int.tmod_lt_of_pos _ (by omega))⟩
    · rw [if_neg c2, if_neg (by omega)]
      exact ⟨_, _, _, rfl, ⟨Int.tmod_nonneg _ hv.1, Or.inr (Int.tmod_lt_of_pos _ (by omega))⟩, h'.up (by omega) hb⟩
theorem draw_among (l : List Int) (hl : Bytes l) (b : Nat) (a s : Int) (xs : List Int) (hx : 0 < xs.length) (h : StA b a) (hb : b + 2 ≤ 1000000) : ∃ v a' s', spec_l1Cur_among.f l a s xs = some (v, a', s') ∧ v ∈ xs ∧ StA (b + 2) a' := by
  unfold spec_l1Cur_among.f
  obtain ⟨v, a', s', e, hv, h'⟩ := draw_pick l hl b a s (xs.length : Int) h hb
  rw [e, Option.bind_some, if_pos hv.1, if_pos (by omega)]
  refine ⟨_, _, _, rfl, ?_, h'⟩
  unfold rd
  have hi : v.toNat < xs.length := by omega
  simp only [List.getD_eq_getElem?_getD, List.getElem?_eq_getElem hi, Option.getD_some]
  exact List.getElem_mem hi
theorem draw_one (l : List Int) (hl : Bytes l) (b : Nat) (a s n : Int) (h : StA b a) (hb : b + 2 ≤ 1000000) : ∃ v a' s', spec_l1Cur_one.f l a s n = some (v, a', s') ∧ StA (b + 2) a' := by
  unfold spec_l1Cur_one.f
  obtain ⟨v, a', s', e, _, h'⟩ := draw_pick l hl b a s n h hb
  rw [e, Option.bind_some]
  exact ⟨_, _, _, rfl, h'⟩
theorem newCur_eq (l : List Int) : newCur.f l = some (l, 0, 0) := rfl
theorem st0 : StA 0 0 := ⟨Int.le_refl _, Int.le_refl _, by decide⟩

theorem draw_lasts (l : List Int) (hl : Bytes l) (b : Nat) (a s : Int) (h : StA b a) (hb : b + 4 ≤ 1000000) : ∃ v a' s', spec_l1Cur_lasts.f l a s = some (v, a', s') ∧ StA (b + 4) a' := by
  unfold spec_l1Cur_lasts.f
  obtain ⟨v, a1, s1, e, _, h1⟩ := draw_pick l hl b a s 500000 h (by omega)
  rw [e, Option.bind_some]
  obtain ⟨v2, a2, s2, e2, _, h2⟩ := draw_among l hl (b + 2) a1 s1 [1000, 50000, 100000, 250000, 1000000, wrap64 (1000 + v)] (by simp) h1 (by omega)
  dsimp only
  rw [e2, Option.bind_some]
  exact ⟨_, _, _, rfl, h2⟩
theorem draw_piece (l : List Int) (hl : Bytes l) (b : Nat) (a s : Int) (h : StA b a) (hb : b + 8 ≤ 1000000) : ∃ v a' s', spec_l1Cur_pieceStep.f l a s = some (v, a', s') ∧ StA (b + 8) a' := by
  unfold spec_l1Cur_pieceStep.f
  obtain ⟨v, a1, s1, e, _, h1⟩ := draw_pick l hl b a s 100 h (by omega)
  rw [e, Option.bind_some]
  obtain ⟨v2, a2, s2, e2, _, h2⟩ := draw_pick l hl (b + 2) a1 s1 100 h1 (by omega)
  dsimp only
  rw [e2, Option.bind_some]
  obtain ⟨v3, a3, s3, e3, _, h3⟩ := draw_among l hl (b + 4) a2 s2 [2001, (-1)] (by simp) h2 (by omega)
  dsimp only
  rw [e3, Option.bind_some]
  obtain ⟨v4, a4, s4, e4, _, h4⟩ := draw_among l hl (b + 6) a3 s3 [0, 1, 7, v, v2, 2000, v3] (by simp) h3 (by omega)
  dsimp only
  rw [e4, Option.bind_some]
  exact ⟨_, _, _, rfl, h4⟩
theorem small20 {n : Nat} (h : n ≤ 2000) : n < 8796093022208 := Nat.lt_of_le_of_lt h (by decide)
theorem draw_tempos_loop (l : List Int) (hl : Bytes l) (n : Int) (hn : n ≤ 20) : ∀ (d : Nat) (x : List S48) (b : Nat) (a s : Int), 20 ≤ x.length + d → 1 ≤ x.length → x.length ≤ 20 → StA b a → b + 8 * d ≤ 1000000 →
    Tot (fun k => spec_l1Cur_tempos.l0 k x n l a s) (fun r => 1 ≤ r.1.length ∧ r.1.length ≤ 20 ∧ StA (b + 8 * d) r.2.1)
  | 0, x, b, a, s, h1, h2, h3, h, hb => by
    refine tstep ?_
    simp only [spec_l1Cur_tempos.l0]
    exact tneg (by omega) (tsome ⟨h2, h3, h.up (by omega) (by omega)⟩)
  | d + 1, x, b, a, s, h1, h2, h3, h, hb => by
    refine tstep ?_
    simp only [spec_l1Cur_tempos.l0, wrap64_id (x := (x.length : Int) - 1) (by omega) (by omega)]
    refine tite (fun c => ?_) (fun c => tsome ⟨h2, h3, h.up (by omega) (by omega)⟩)
    refine tpos (by omega) (tpos (by omega) ?_)
    obtain ⟨v1, a1, s1, e1, _, g1⟩ := draw_pick l hl b a s 40 h (by omega)
    obtain ⟨v2, a2, s2, e2, g2⟩ := draw_lasts l hl (b + 2) a1 s1 g1 (by omega)
    obtain ⟨v3, a3, s3, e3, _, g3⟩ := draw_among l hl (b + 6) a2 s2 [v2, (rd_T48 x ((x.length : Int) - 1)).f1] (by simp) g2 (by omega)
    rw [e1]; refine tlet ?_
    rw [e2]; refine tlet ?_
    rw [e3]; refine tlet (tpos (small20 (by omega)) ?_)
    refine tmono (draw_tempos_loop l hl n hn d _ (b + 8) a3 s3 (by rw [List.length_append]; simp; omega) (by rw [List.length_append]; simp) (by rw [List.length_append]; simp; omega) g3 (by omega)) (fun r hr => ?_)
    rw [show b + 8 * (d + 1) = b + 8 + 8 * d by omega]
    exact hr
theorem draw_tempos (l : List Int) (hl : Bytes l) (b : Nat) (a s : Int) (h : StA b a) (hb : b + 200 ≤ 1000000) : Tot (fun k => spec_l1Cur_tempos.f k l a s) (fun r => 1 ≤ r.1.length ∧ r.1.length ≤ 20 ∧ StA (b + 200) r.2.1) := by
  unfold spec_l1Cur_tempos.f
  obtain ⟨v1, a1, s1, e1, g1⟩ := draw_lasts l hl b a s h (by omega)
  obtain ⟨v2, a2, s2, e2, hv, g2⟩ := draw_pick l hl (b + 4) a1 s1 5 g1 (by omega)
  obtain ⟨v3, a3, s3, e3, g3⟩ := draw_one l hl (b + 6) a2 s2 20 g2 (by omega)
  rw [e1]; refine tlet (tlet ?_)
  rw [e2]; refine tlet ?_
  rw [e3]; refine tlet ?_
  have key : ∀ n : Int, n ≤ 20 → Tot (fun k => spec_l1Cur_tempos.j0 k [(⟨0, v1⟩ : S48)] n l a3 s3) (fun r => 1 ≤ r.1.length ∧ r.1.length ≤ 20 ∧ StA (b + 200) r.2.1) := fun n hn => by
    refine tstep ?_
    simp only [spec_l1Cur_tempos.j0]
    exact tmono (draw_tempos_loop l hl n hn 19 _ (b + 8) a3 s3 (by simp) (by simp) (by simp) g3 (by omega)) (fun r hr => ⟨hr.1, hr.2.1, hr.2.2.up (by omega) hb⟩)
  exact tite (fun _ => key 20 (Int.le_refl _)) (fun _ => key _ (by rw [wrap64_id (by omega) (by omega)]; omega))
theorem draw_any_loop (l : List Int) (n : Int) (hn : n ≤ 21) (a s : Int) : ∀ (d : Nat) (x : List S48), 21 ≤ x.length + d → x.length ≤ 21 → Tot (fun k => spec_l1Cur_anyTempos.l0 k x n l a s) (fun r => r.1.length ≤ 21 ∧ r.2.1 = a)
  | 0, x, h1, h2 => by
    refine tstep ?_
    simp only [spec_l1Cur_anyTempos.l0]
    exact tneg (by omega) (tsome ⟨h2, rfl⟩)
  | d + 1, x, h1, h2 => by
    refine tstep ?_
    simp only [spec_l1Cur_anyTempos.l0]
    refine tite (fun c => tpos (small20 (by omega)) ?_) (fun c => tsome ⟨h2, rfl⟩)
    exact draw_any_loop l n hn a s d _ (by rw [List.length_append]; simp; omega) (by rw [List.length_append]; simp; omega)
theorem draw_anyTempos (l : List Int) (hl : Bytes l) (b : Nat) (a s : Int) (h : StA b a) (hb : b + 300 ≤ 1000000) : Tot (fun k => spec_l1Cur_anyTempos.f k l a s) (fun r => r.1.length ≤ 21 ∧ StA (b + 300) r.2.1) := by
  unfold spec_l1Cur_anyTempos.f
  refine tbind (draw_tempos l hl b a s h (by omega)) (fun t ht => ?_)
  obtain ⟨t1, t2, t3⟩ := ht
  obtain ⟨v1, a1, s1, e1, hv, g1⟩ := draw_pick l hl (b + 200) t.2.1 t.2.2 (t.1.length : Int) t3 (by omega)
  rw [e1]; refine tlet (tpos hv.1 (tpos (by dsimp only; omega) ?_))
  obtain ⟨v2, a2, s2, e2, hv2, g2⟩ := draw_pick l hl (b + 202) a1 s1 30 g1 (by omega)
  dsimp only
  rw [e2]; refine tlet ?_
  dsimp only
  refine tite (fun _ => ?_) (fun _ => tite (fun _ => ?_) (fun _ => tite (fun _ => tsome ⟨Nat.zero_le _, g2.up (by omega) hb⟩) (fun _ => tite (fun _ => ?_) (fun _ => tsome ⟨by dsimp only; omega, g2.up (by omega) hb⟩))))
  · obtain ⟨v3, a3, s3, e3, _, g3⟩ := draw_among l hl (b + 204) a2 s2 [(-1), 0, 1, 2000, 2001] (by simp) g2 (by omega)
    rw [e3]
    exact tlet (tsome ⟨by rw [List.length_set]; omega, g3.up (by omega) hb⟩)
  · obtain ⟨v3, a3, s3, e3, _, g3⟩ := draw_among l hl (b + 204) a2 s2 [999, 1000, 1000000, 1000001] (by simp) g2 (by omega)
    rw [e3]
    exact tlet (tsome ⟨by rw [List.length_set]; omega, g3.up (by omega) hb⟩)
  · obtain ⟨v3, a3, s3, e3, hv3, g3⟩ := draw_pick l hl (b + 204) a2 s2 2 g2 (by omega)
    rw [e3]
    refine tlet (tmono (draw_any_loop l _ (by dsimp only; rw [wrap64_id (by omega) (by omega)]; omega) a3 s3 21 t.1 (by omega) (by omega)) (fun r hr => ⟨hr.1, by rw [hr.2]; exact g3.up (by omega) hb⟩))

theorem draw_TempoAt (l : List Int) (hl : Bytes l) : Tot (fun k => spec_DrawTempoAt.f k l) (fun r => r.1.length ≤ 21) := by
  unfold spec_DrawTempoAt.f
  rw [newCur_eq]; refine tlet (tbind (draw_anyTempos l hl 0 0 0 st0 (by omega)) (fun t ht => ?_))
  obtain ⟨v, a, s, e, _⟩ := draw_piece l hl (0 + 300) t.2.1 t.2.2 ht.2 (by omega)
  dsimp only
  rw [e]; exact tlet (tsome ht.1)

theorem draw_TimeOf (l : List Int) (hl : Bytes l) : Tot (fun k => spec_DrawTimeOf.f k l) (fun r => r.1.length ≤ 21) := by
  unfold spec_DrawTimeOf.f
  exact tbind (draw_TempoAt l hl) (fun t ht => tsome ht)

theorem draw_StepAtTime (l : List Int) (hl : Bytes l) : Tot (fun k => spec_DrawStepAtTime.f k l) (fun r => r.1.length ≤ 21) := by
  unfold spec_DrawStepAtTime.f
  rw [newCur_eq]; refine tlet (tbind (draw_anyTempos l hl 0 0 0 st0 (by omega)) (fun t ht => ?_))
  obtain ⟨v1, a1, s1, e1, _, g1⟩ := draw_pick l hl (0 + 300) t.2.1 t.2.2 30000 ht.2 (by omega)
  dsimp only
  rw [e1]; refine tlet ?_
  obtain ⟨v2, a2, s2, e2, _, g2⟩ := draw_among l hl (0 + 302) a1 s1 [0, 1000, wrap64 (v1 * 1000), 2000000000, 2000000001, (-1)] (by simp) g1 (by omega)
  dsimp only
  rw [e2]; refine tlet ?_
  refine tbind (teGood_tot t.1 (by omega)) (fun b hb => ?_)
  have jf : ∀ a s, Tot (fun k => spec_DrawStepAtTime.j0 k t.1 v2 false l a s) (fun r => r.1.length ≤ 21) := fun a s => by
    refine tstep ?_
    simp only [spec_DrawStepAtTime.j0]
    exact tneg (by decide) (tsome ht.1)
  dsimp only
  refine tite (fun c => ?_) (fun c => jf _ _)
  obtain ⟨v3, a3, s3, e3, g3⟩ := draw_one l hl (0 + 304) a2 s2 2 g2 (by omega)
  rw [e3]; refine tlet ?_
  dsimp only
  cases v3 with
  | false => exact jf _ _
  | true =>
    refine tstep ?_
    simp only [spec_DrawStepAtTime.j0]
    refine tpos (by trivial) ?_
    obtain ⟨v4, a4, s4, e4, hv4, g4⟩ := draw_pick l hl (0 + 306) a3 s3 120 g3 (by omega)
    rw [e4]; refine tlet ?_
    refine tbind (teTime_tot t.1 (hb.1 c) v4 hv4.1 (by omega)) (fun _ _ => ?_)
    obtain ⟨v5, a5, s5, e5, _, g5⟩ := draw_pick l hl (0 + 308) a4 s4 2 g4 (by omega)
    dsimp only
    rw [e5]; exact tlet (tsome ht.1)

theorem draw_TimeBetween (l : List Int) (hl : Bytes l) : Tot (fun k => spec_DrawTimeBetween.f k l) (fun r => r.1.length ≤ 21) := by
  unfold spec_DrawTimeBetween.f
  rw [newCur_eq]; refine tlet ?_
  obtain ⟨v1, a1, s1, e1, g1⟩ := draw_piece l hl 0 0 0 st0 (by omega)
  dsimp only
  rw [e1]; refine tlet ?_
  dsimp only
  refine tbind (draw_anyTempos l hl (0 + 8) a1 s1 g1 (by omega)) (fun t ht => ?_)
  obtain ⟨v2, a2, s2, e2, _, g2⟩ := draw_pick l hl (0 + 8 + 300) t.2.1 t.2.2 50 ht.2 (by omega)
  rw [e2]; refine tlet ?_
  obtain ⟨v3, a3, s3, e3, g3⟩ := draw_piece l hl (0 + 8 + 300 + 2) a2 s2 g2 (by omega)
  dsimp only
  rw [e3]; refine tlet ?_
  obtain ⟨v4, a4, s4, e4, _, g4⟩ := draw_among l hl (0 + 8 + 300 + 2 + 8) a3 s3 [v1, wrap64 (v1 + 1), wrap64 (v1 + v2), 2000, v3] (by simp) g3 (by omega)
  dsimp only
  rw [e4]; exact tlet (tsome ht.1)

theorem draw_AddTempo (l : List Int) (hl : Bytes l) : Tot (fun k => spec_DrawAddTempo.f k l) (fun r => r.1.length ≤ 21) := by
  have j1 : ∀ (x : List S48) (v : Int) (b : Nat) (a s : Int), x.length ≤ 21 → StA b a → b + 20 ≤ 1000000 → Tot (fun k => spec_DrawAddTempo.j1 k x v l a s) (fun r => r.1.length ≤ 21) := fun x v b a s hx h hb => by
    refine tstep ?_
    simp only [spec_DrawAddTempo.j1]
    obtain ⟨v1, a1, s1, e1, g1⟩ := draw_lasts l hl b a s h (by omega)
    rw [e1]; refine tlet ?_
    obtain ⟨v2, a2, s2, e2, g2⟩ := draw_lasts l hl (b + 4) a1 s1 g1 (by omega)
    dsimp only
    rw [e2]; refine tlet ?_
    obtain ⟨v3, a3, s3, e3, _, g3⟩ := draw_among l hl (b + 8) a2 s2 [999, 1000001] (by simp) g2 (by omega)
    dsimp only
    rw [e3]; refine tlet ?_
    obtain ⟨v4, a4, s4, e4, _, g4⟩ := draw_among l hl (b + 10) a3 s3 [v1, v2, v3] (by simp) g3 (by omega)
    dsimp only
    rw [e4]; exact tlet (tsome hx)
  have j0f : ∀ (x : List S48) (v : Int) (b : Nat) (a s : Int), x.length ≤ 21 → StA b a → b + 20 ≤ 1000000 → Tot (fun k => spec_DrawAddTempo.j0 k x v false l a s) (fun r => r.1.length ≤ 21) := fun x v b a s hx h hb => by
    refine tstep ?_
    simp only [spec_DrawAddTempo.j0]
    exact tneg (by decide) (j1 x v b a s hx h hb)
  unfold spec_DrawAddTempo.f
  rw [newCur_eq]; refine tlet (tbind (draw_anyTempos l hl 0 0 0 st0 (by omega)) (fun t ht => ?_))
  obtain ⟨v1, a1, s1, e1, g1⟩ := draw_piece l hl (0 + 300) t.2.1 t.2.2 ht.2 (by omega)
  dsimp only
  rw [e1]; refine tlet ?_
  dsimp only
  refine tite (fun c => ?_) (fun c => j0f _ _ _ _ _ ht.1 g1 (by omega))
  obtain ⟨v2, a2, s2, e2, g2⟩ := draw_one l hl (0 + 300 + 8) a1 s1 4 g1 (by omega)
  rw [e2]; refine tlet ?_
  dsimp only
  cases v2 with
  | false => exact j0f _ _ _ _ _ ht.1 g2 (by omega)
  | true =>
    refine tstep ?_
    simp only [spec_DrawAddTempo.j0]
    refine tpos (by trivial) ?_
    obtain ⟨v3, a3, s3, e3, hv3, g3⟩ := draw_pick l hl (0 + 300 + 8 + 2) a2 s2 (t.1.length : Int) g2 (by omega)
    rw [e3]; refine tlet (tpos hv3.1 (tpos (by dsimp only; omega) ?_))
    exact j1 _ _ _ _ _ ht.1 g3 (by omega)

theorem qTempos_tot (l : List S48) (hl : l.length ≤ 1048576) : Tot (fun k => laws_qTempos.f k l l) (fun b => b = true) := by
  unfold laws_qTempos.f
  refine tpos rfl ?_
  refine trec (σ := Int) (fun i k => laws_qTempos.l0 k l l (l.length : Int) i) (fun i => ((l.length : Int) - i).toNat) (fun i => 0 ≤ i ∧ i ≤ (l.length : Int)) (fun _ b => b = true) ?_ 0 ⟨Int.le_refl _, by omega⟩
  rintro i ⟨h0, h1⟩ ih
  simp only [laws_qTempos.l0, wrap64_id (x := i + 1) (by omega) (by omega)]
  refine tite (fun c => tpos h0 (tpos c (tpos c (tneg (by simp) (ih (i + 1) ⟨by omega, by omega⟩ (by (try dsimp only); omega)))))) (fun _ => tsome rfl)

theorem tconf {α : Type} {g : Nat → Option α} {r : α} {Q : α → Prop} (h : Tot g (fun y => y = r)) (k : Tot g Q) : Q r := by
  obtain ⟨a, _, h1, h2⟩ := tand h k
  rw [← h1]; exact h2
def TimeR (l : List S48) (s : Int) (r : Int × Bool) : Prop := (TeGood l ∧ (0 ≤ s ∧ s ≤ 2000) ∧ r = (tm l s, true)) ∨ (¬ (TeGood l ∧ 0 ≤ s ∧ s ≤ 2000) ∧ r = (0, false))
theorem specTimeR (l : List S48) (s : Int) (hl : l.length ≤ 1048576) : Tot (fun k => spec_TimeOf.f k l s) (fun r => TimeR l s r) := by
  unfold spec_TimeOf.f
  refine tbind (teGood_tot l hl) (fun b hb => ?_)
  simp only [teStep_eq, Option.bind_some, decide_eq_true_eq]
  refine tite (fun c => tite (fun c2 => ?_) (fun c2 => tsome (.inr ⟨fun h => c2 h.2, rfl⟩))) (fun c => tsome (.inr ⟨fun h => c (hb.2 h.1), rfl⟩))
  refine tbind (teTime_tot l (hb.1 c) s c2.1 c2.2) (fun _ e => ?_); subst e
  exact tsome (.inl ⟨hb.1 c, c2, rfl⟩)
theorem timeOf_post (l : List S48) (s : Int) (hl : l.length ≤ 1048576) : ∃ r, TimeR l s r ∧ Tot (fun k => spec_TimeOf.f k l s) (fun y => y = r) ∧ Tot (fun k => impl_TimeOf.f k l s) (fun y => y = r) := by
  obtain ⟨r, h1, h2⟩ := timeOf_agree l s hl
  exact ⟨r, tconf (Q := fun r => TimeR l s r) h1 (specTimeR l s hl), h1, h2⟩
theorem timeOf_good (l : List S48) (s : Int) (hl : l.length ≤ 1048576) (hg : TeGood l) (hs : 0 ≤ s ∧ s ≤ 2000) : Tot (fun k => spec_TimeOf.f k l s) (fun y => y = (tm l s, true)) ∧ Tot (fun k => impl_TimeOf.f k l s) (fun y => y = (tm l s, true)) := by
  obtain ⟨r, hr, h1, h2⟩ := timeOf_post l s hl
  rcases hr with ⟨_, _, rfl⟩ | ⟨h, _⟩
  · exact ⟨h1, h2⟩
  · exact absurd ⟨hg, hs⟩ h
def StepR (l : List S48) (t : Int) (r : Int × Bool) : Prop := (∃ s, TeGood l ∧ 0 ≤ t ∧ StepOf l t s ∧ r = (s, true)) ∨ (¬ (TeGood l ∧ 0 ≤ t) ∧ r = (0, false))
theorem specStepR (l : List S48) (t : Int) (hl : l.length ≤ 1048576) : Tot (fun k => spec_StepAtTime.f k l t) (fun r => StepR l t r) := by
  have sF : ¬ (TeGood l ∧ 0 ≤ t) → Tot (fun k => spec_StepAtTime.j0 k l t true) (fun r => StepR l t r) := fun h => by
    refine tstep ?_
    simp only [spec_StepAtTime.j0, if_true]
    exact tsome (.inr ⟨h, rfl⟩)
  unfold spec_StepAtTime.f
  refine tbind (teGood_tot l hl) (fun b hb => tite (fun c => ?_) (fun c => sF (fun h => c (hb.2 h.1))))
  by_cases t0 : t < 0
  · rw [decide_eq_true t0]
    exact sF (fun h => by omega)
  · rw [decide_eq_false t0]
    refine tstep ?_
    simp only [spec_StepAtTime.j0]
    refine tneg (by simp) (tmono (specStep_tot l (hb.1 c) t (by omega)) (fun y hy => ?_))
    obtain ⟨s, e, hs⟩ := hy
    exact .inl ⟨s, hb.1 c, by omega, hs, e⟩
theorem stepAt_post (l : List S48) (t : Int) (hl : l.length ≤ 1048576) : ∃ r, StepR l t r ∧ Tot (fun k => spec_StepAtTime.f k l t) (fun y => y = r) ∧ Tot (fun k => impl_StepAtTime.f k l t) (fun y => y = r) := by
  obtain ⟨r, h1, h2⟩ := stepAtTime_agree l t hl
  exact ⟨r, tconf (Q := fun r => StepR l t r) h1 (specStepR l t hl), h1, h2⟩
theorem between_post (l : List S48) (a b : Int) (hl : l.length ≤ 1048576) : ∃ r, ((TeTwo l a b ∧ r = (tm l b - tm l a, true)) ∨ (¬ TeTwo l a b ∧ r = (0, false))) ∧ Tot (fun k => spec_TimeBetween.f k l a b) (fun y => y = r) ∧ Tot (fun k => impl_TimeBetween.f k l a b) (fun y => y = r) := by
  obtain ⟨r, h1, h2⟩ := timeBetween_agree l a b hl
  exact ⟨r, tconf (Q := fun r => (TeTwo l a b ∧ r = (tm l b - tm l a, true)) ∨ (¬ TeTwo l a b ∧ r = (0, false))) h2 (implBetween_tot l a b hl), h1, h2⟩
theorem tempoAt_good (l : List S48) (s q : Int) (hl : l.length ≤ 1048576) (hg : TeGood l) (hs : 0 ≤ s ∧ s ≤ 2000) (hq : TeAt l s q) : Tot (fun k => spec_TempoAt.f k l s) (fun y => y = ((rd_T48 l q).f1, true)) ∧ Tot (fun k => impl_TempoAt.f k l s) (fun y => y = ((rd_T48 l q).f1, true)) := by
  obtain ⟨r, h1, h2⟩ := tempoAt_agree l s hl
  have hi : Tot (fun k => impl_TempoAt.f k l s) (fun y => y = ((rd_T48 l q).f1, true)) := by
    unfold impl_TempoAt.f
    refine tbind (areTempos_tot l hl) (fun b hb => tpos (hb.2 hg) ?_)
    simp only [isTempoStep_eq, Option.bind_some, decide_eq_true_eq]
    refine tpos hs ?_
    refine tbind (implTempoAt_tot l hg s q hq) (fun _ e => ?_); subst e
    exact tsome rfl
  have e : r = ((rd_T48 l q).f1, true) := tconf (Q := fun y => y = ((rd_T48 l q).f1, true)) h2 hi
  rw [e] at h1
  exact ⟨h1, hi⟩
/-- A step on is as much later as the step lasts. -/
theorem tm_step (l : List S48) (hg : TeGood l) (s q : Int) (h0 : 0 ≤ s) (hq : TeAt l s q) : tm l (s + 1) = tm l s + (rd_T48 l q).f1 := by
  obtain ⟨q0, q1, q2, q3⟩ := hq
  have key : ∀ i : Nat, i ≤ l.length → tmUpto l (s + 1) i = tmUpto l s i + (if q < (i : Int) then (rd_T48 l q).f1 else 0) := by
    intro i
    induction i with
    | zero => intro _; rw [if_neg (by omega)]; rfl
    | succ i ih =>
      intro hi
      have h1 := ih (by omega)
      have hseg : seg l (s + 1) (i : Int) = seg l s (i : Int) + (if (i : Int) = q then (rd_T48 l q).f1 else 0) := by
        rcases Int.lt_trichotomy (i : Int) q with c | c | c
        · rw [if_neg (by omega)]
          have m := te_mono l hg ((i : Int) + 1) q (by omega) (by omega) q1
          have hc : (i : Int) + 1 < (l.length : Int) := by omega
          unfold seg
          rw [if_pos hc, if_pos hc]
          have e1 : mn (s + 1) (rd_T48 l ((i : Int) + 1)).f0 = (rd_T48 l ((i : Int) + 1)).f0 := by unfold mn; split <;> omega
          have e2 : mn s (rd_T48 l ((i : Int) + 1)).f0 = (rd_T48 l ((i : Int) + 1)).f0 := by unfold mn; split <;> omega
          rw [e1, e2, Int.add_zero]
        · rw [if_pos c, ← c]
          rw [← c] at q2 q3
          have hm : (s + 1 - (rd_T48 l (i : Int)).f0) * (rd_T48 l (i : Int)).f1 = (s - (rd_T48 l (i : Int)).f0) * (rd_T48 l (i : Int)).f1 + (rd_T48 l (i : Int)).f1 := by
            rw [show s + 1 - (rd_T48 l (i : Int)).f0 = (s - (rd_T48 l (i : Int)).f0) + 1 by omega, Int.add_mul, Int.one_mul]
          have hz : ¬ s > (rd_T48 l (i : Int)).f0 → (s - (rd_T48 l (i : Int)).f0) * (rd_T48 l (i : Int)).f1 = 0 := fun h => by
            rw [show s - (rd_T48 l (i : Int)).f0 = 0 by omega, Int.zero_mul]
          unfold seg
          by_cases cn : (i : Int) + 1 < (l.length : Int)
          · have q4 := q3 cn
            have e1 : mn (s + 1) (rd_T48 l ((i : Int) + 1)).f0 = s + 1 := by unfold mn; split <;> omega
            have e2 : mn s (rd_T48 l ((i : Int) + 1)).f0 = s := by unfold mn; split <;> omega
            rw [if_pos cn, if_pos cn, e1, e2, if_pos (by omega), hm]
            by_cases cs : s > (rd_T48 l (i : Int)).f0
            · rw [if_pos cs]
            · rw [if_neg cs, hz cs]
          · rw [if_neg cn, if_neg cn, if_pos (by omega), hm]
            by_cases cs : s > (rd_T48 l (i : Int)).f0
            · rw [if_pos cs]
            · rw [if_neg cs, hz cs]
        · rw [if_neg (by omega)]
          have m := te_mono l hg (q + 1) (i : Int) (by omega) (by omega) (by omega)
          have q4 := q3 (by omega)
          have z : ∀ u : Int, u ≤ (rd_T48 l (i : Int)).f0 → seg l u (i : Int) = 0 := fun u hu => by
            unfold seg
            split
            · rw [if_neg]
              unfold mn; split <;> omega
            · rw [if_neg (by omega)]
          rw [z (s + 1) (by omega), z s (by omega)]; rfl
      show tmUpto l (s + 1) i + seg l (s + 1) (i : Int) = tmUpto l s i + seg l s (i : Int) + _
      rw [h1, hseg]
      by_cases c : (i : Int) = q
      · rw [if_neg (by omega), if_pos c, if_pos (by omega)]; omega
      · rw [if_neg c]
        by_cases c2 : q < (i : Int)
        · rw [if_pos c2, if_pos (by omega)]; omega
        · rw [if_neg c2, if_neg (by omega)]; omega
  have := key l.length (Nat.le_refl _)
  rw [if_pos q1] at this
  exact this

def AddR (l : List S48) (s t : Int) (r : List S48 × Bool) : Prop := r.2 = true → TeGood r.1 ∧ 0 ≤ s ∧ s ≤ 2000 ∧ ∃ q, TeAt r.1 s q ∧ (rd_T48 r.1 q).f1 = t
theorem specAddR (l : List S48) (s t : Int) (hl : l.length ≤ 1048576) : Tot (fun k => spec_AddTempo.f k l s t) (fun r => AddR l s t r) := by
  have sF : Tot (fun k => spec_AddTempo.j0 k l true s t) (fun r => AddR l s t r) := by
    refine tstep ?_
    simp only [spec_AddTempo.j0, if_true]
    exact tsome (fun h => by cases h)
  unfold spec_AddTempo.f
  refine tbind (teGood_tot l hl) (fun bb h => tite (fun c => ?_) (fun _ => sF))
  have hg := h.1 c
  simp only [teChange_eq, Option.bind_some]
  by_cases hx : 0 ≤ s ∧ s ≤ 2000 ∧ 1000 ≤ t ∧ t ≤ 1000000
  · rw [decide_eq_true hx, Bool.not_true]
    obtain ⟨a, b, hab⟩ := addAt_ex l hg s
    refine tstep ?_
    simp only [spec_AddTempo.j0]
    refine tneg (by simp) (tmono (specAdd_tot l hg s t a b hab) (fun r hr => ?_))
    rcases hr with ⟨hG, rfl⟩ | ⟨_, rfl⟩
    · intro _
      have hat := rd_at l ⟨s, t⟩ a b hab.1
      have hlen := addRes_len l ⟨s, t⟩ a b hab.1
      refine ⟨hG, hx.1, hx.2.1, (a : Int), ⟨by omega, by show (a : Int) < ((addRes l ⟨s, t⟩ a b).length : Int); omega, ?_, fun hn => ?_⟩, ?_⟩
      · show (rd_T48 (addRes l ⟨s, t⟩ a b) (a : Int)).f0 ≤ s
        rw [hat]; exact Int.le_refl _
      · have hn' : (a : Int) + 1 < ((addRes l ⟨s, t⟩ a b).length : Int) := hn
        have := (hG.1 ((a : Int) + 1) (by omega) hn').2.2 (by omega)
        rw [show (a : Int) + 1 - 1 = (a : Int) by omega, hat] at this
        exact this
      · show (rd_T48 (addRes l ⟨s, t⟩ a b) (a : Int)).f1 = t
        rw [hat]
    · intro h; cases h
  · rw [decide_eq_false hx, Bool.not_false]
    exact sF
theorem add_post (l : List S48) (s t : Int) (hl : l.length ≤ 1048576) : ∃ r, AddR l s t r ∧ Tot (fun k => spec_AddTempo.f k l s t) (fun y => y = r) ∧ Tot (fun k => impl_AddTempo.f k l s t) (fun y => y = r) ∧ r.1.length ≤ 1048576 := by
  obtain ⟨r, h1, h2, h3⟩ := addTempo_agree l s t hl
  exact ⟨r, tconf (Q := fun r => AddR l s t r) h1 (specAddR l s t hl), h1, h2, h3⟩


theorem fT5 (l : List S48) (step : Int) (hl : l.length ≤ 1048576) (hg : TeGood l) (h0 : 0 ≤ step) (h1 : step ≤ 2000) : Tot (fun k => laws_FnTempos.j5 k l step (tm l step) (step == 2000)) (fun b => b = true) := by
  refine tstep ?_
  simp only [laws_FnTempos.j5]
  by_cases c : step = 2000
  · exact tpos (by simp [c]) (tsome rfl)
  · refine tneg (by simp [c]) ?_
    obtain ⟨q, _, hq⟩ := teAt_tot l hg step h0
    have hc := (hg.1 q hq.1 hq.2.1).1
    unfold OkChange at hc
    have ht := tempoAt_good l step q hl hg ⟨h0, h1⟩ hq
    have hs := tm_step l hg step q h0 hq
    have hn := timeOf_good l (step + 1) hl hg ⟨by omega, by omega⟩
    have hb := tm_bounds l hg step h1
    have hb2 := tm_bounds l hg (step + 1) (by omega)
    obtain ⟨r, hr, _, hI⟩ := stepAt_post l (tm l step) hl
    have e : r = (step, true) := by
      rcases hr with ⟨s, _, _, hS, rfl⟩ | ⟨h, _⟩
      · rw [hS.det hg ⟨h0, h1, Int.le_refl _, fun _ => by rw [hs]; omega⟩]
      · exact absurd ⟨hg, hb.1⟩ h
    subst e
    rw [wrap64_id (x := step + 1) (by omega) (by omega)]
    refine tbind ht.2 (fun _ e => ?_); subst e
    refine tbind ht.1 (fun _ e => ?_); subst e
    refine tbind hn.2 (fun _ e => ?_); subst e
    refine tbind hI (fun _ e => ?_); subst e
    refine tpos rfl (tpos rfl (tpos rfl (tpos rfl (tpos ?_ (tpos rfl (tsome (by simp)))))))
    show tm l (step + 1) = wrap64 (tm l step + (rd_T48 l q).f1)
    rw [← hs, wrap64_id (by omega) (by omega)]
theorem fT4 (l : List S48) (step : Int) (hl : l.length ≤ 1048576) (r : Int × Bool) (hr : TimeR l step r) : Tot (fun k => laws_FnTempos.j4 k l step r.2 r.1) (fun b => b = true) := by
  refine tstep ?_
  simp only [laws_FnTempos.j4]
  rcases hr with ⟨hg, hs, rfl⟩ | ⟨_, rfl⟩
  · exact tpos rfl (fT5 l step hl hg hs.1 hs.2)
  · refine tneg (by simp) (tstep ?_)
    simp only [laws_FnTempos.j5]
    exact tpos (by trivial) (tsome rfl)
theorem fT3 (l : List S48) (step : Int) (hl : l.length ≤ 1048576) (r : Int × Bool) (hr : TimeR l step r) (c : List S48) (x0 x1 : Int) (rA : List S48 × Bool) (hA : AddR c x0 x1 rA) (lA : rA.1.length ≤ 1048576) : Tot (fun k => laws_FnTempos.j3 k l step r.2 r.1 rA.1 rA.2 x0 x1) (fun b => b = true) := by
  refine tstep ?_
  simp only [laws_FnTempos.j3]
  refine tite (fun h => ?_) (fun _ => fT4 l step hl r hr)
  obtain ⟨hG, h0, h1, q, hq, hf⟩ := hA h
  have ht := tempoAt_good rA.1 x0 q lA hG ⟨h0, h1⟩ hq
  refine tbind ht.2 (fun _ e => ?_); subst e
  refine tpos rfl (tpos hf (tbind (areTempos_tot rA.1 lA) (fun b hb => tpos (hb.2 hG) (fT4 l step hl r hr))))
theorem fT2 (l : List S48) (step : Int) (hl : l.length ≤ 1048576) (r : Int × Bool) (hr : TimeR l step r) (c : List S48) (x0 x1 : Int) (rA : List S48 × Bool) (hA : AddR c x0 x1 rA) (lA : rA.1.length ≤ 1048576)
    (b : List S48) (f t : Int) (lb : b.length ≤ 1048576) (rB : Int × Bool) (hB : (TeTwo b f t ∧ rB = (tm b t - tm b f, true)) ∨ (¬ TeTwo b f t ∧ rB = (0, false))) : Tot (fun k => laws_FnTempos.j2 k l step r.2 r.1 b f t rB.2 rB.1 rA.1 rA.2 x0 x1) (fun b => b = true) := by
  refine tstep ?_
  simp only [laws_FnTempos.j2]
  rcases hB with ⟨hT, rfl⟩ | ⟨_, rfl⟩
  · refine tpos rfl ?_
    have h1 := timeOf_good b f lb hT.1 hT.2.1
    have h2 := timeOf_good b t lb hT.1 hT.2.2.1
    have b1 := tm_bounds b hT.1 f hT.2.1.2
    have b2 := tm_bounds b hT.1 t hT.2.2.1.2
    refine tbind h1.2 (fun _ e => ?_); subst e
    refine tbind h2.2 (fun _ e => ?_); subst e
    refine tpos rfl (tpos rfl (tpos ?_ (fT3 l step hl r hr c x0 x1 rA hA lA)))
    show wrap64 (tm b t - tm b f) = tm b t - tm b f
    exact wrap64_id (by omega) (by omega)
  · exact tneg (by simp) (fT3 l step hl r hr c x0 x1 rA hA lA)
theorem fT0 (l : List S48) (step : Int) (hl : l.length ≤ 1048576) (r : Int × Bool) (hr : TimeR l step r) (c : List S48) (x0 x1 : Int) (rA : List S48 × Bool) (hA : AddR c x0 x1 rA) (lA : rA.1.length ≤ 1048576)
    (b : List S48) (f t : Int) (lb : b.length ≤ 1048576) (rB : Int × Bool) (hB : (TeTwo b f t ∧ rB = (tm b t - tm b f, true)) ∨ (¬ TeTwo b f t ∧ rB = (0, false)))
    (a : List S48) (at_ : Int) (la : a.length ≤ 1048576) (rS : Int × Bool) (hS : StepR a at_ rS) : Tot (fun k => laws_FnTempos.j0 k l step r.2 r.1 a at_ rS.2 rS.1 b f t rB.2 rB.1 rA.1 rA.2 false x0 x1) (fun b => b = true) := by
  have J2 := fT2 l step hl r hr c x0 x1 rA hA lA b f t lb rB hB
  refine tstep ?_
  simp only [laws_FnTempos.j0]
  refine tneg (by decide) ?_
  rcases hS with ⟨s, hg, h0, ⟨s0, s1, s2, s3⟩, rfl⟩ | ⟨_, rfl⟩
  · refine tpos rfl ?_
    have h1 := timeOf_good a s la hg ⟨s0, s1⟩
    refine tbind h1.2 (fun _ e => ?_); subst e
    refine tbind h1.1 (fun _ e => ?_); subst e
    refine tpos rfl (tpos rfl (tpos rfl ?_))
    dsimp only
    rw [decide_eq_false (show ¬ tm a s > at_ by omega)]
    refine tstep ?_
    simp only [laws_FnTempos.j1]
    refine tneg (by decide) (tite (fun c2 => ?_) (fun _ => J2))
    rw [wrap64_id (x := s + 1) (by omega) (by omega)]
    have h2 := timeOf_good a (s + 1) la hg ⟨by omega, by omega⟩
    refine tbind h2.2 (fun _ e => ?_); subst e
    refine tpos rfl (tneg ?_ J2)
    have := s3 c2
    show ¬ tm a (s + 1) ≤ at_
    omega
  · exact tneg (by simp) J2

theorem FnTempos : laws_FnTempos.Pure := by
  intro l0 l1 hm0 hb0 hw0 hm1 hb1 hw1
  refine rounds ?_
  unfold laws_FnTempos.f
  have wfb : ∀ x : Int, (Lit.int .u8 x).wf = true → 0 ≤ x ∧ x ≤ 255 := fun x h => by
    have h2 : (decide (IntKind.u8.min ≤ x) && decide (x ≤ IntKind.u8.max)) = true := h
    rw [Bool.and_eq_true, decide_eq_true_eq, decide_eq_true_eq] at h2
    exact h2
  refine tite (fun _ => tsome rfl) (fun hsz => ?_)
  have hsum : l0.length + l1.length ≤ 1048576 := by
    rw [wrap64_id (by omega) (by omega)] at hsz
    omega
  have B0 : Bytes l0 := ⟨fun x hx => wfb x (hw0 x hx), by omega⟩
  have B1 : Bytes l1 := ⟨fun x hx => wfb x (hw1 x hx), by omega⟩
  refine tbind (draw_TimeOf l0 B0) (fun A hA => ?_)
  obtain ⟨l, step⟩ := A
  dsimp only at hA
  obtain ⟨rT, hT, sT, iT⟩ := timeOf_post l step (by omega)
  refine tbind iT (fun _ e => ?_); subst e
  refine tbind sT (fun _ e => ?_); subst e
  refine tbind (draw_StepAtTime l1 B1) (fun A hA2 => ?_)
  obtain ⟨a, at_⟩ := A
  dsimp only at hA2
  obtain ⟨rS, hS, sS, iS⟩ := stepAt_post a at_ (by omega)
  refine tbind iS (fun _ e => ?_); subst e
  refine tbind sS (fun _ e => ?_); subst e
  refine tbind (draw_TimeBetween l1 B1) (fun A hA3 => ?_)
  obtain ⟨b, frm, upt⟩ := A
  dsimp only at hA3
  obtain ⟨rB, hB, sB, iB⟩ := between_post b frm upt (by omega)
  refine tbind iB (fun _ e => ?_); subst e
  refine tbind sB (fun _ e => ?_); subst e
  refine tbind (draw_AddTempo l1 B1) (fun A hA4 => ?_)
  obtain ⟨c, x0, x1⟩ := A
  dsimp only at hA4
  obtain ⟨rA, hAd, sA, iA, lA⟩ := add_post c x0 x1 (by omega)
  refine tbind iA (fun _ e => ?_); subst e
  refine tbind sA (fun _ e => ?_); subst e
  refine tneg (by simp) (tpos rfl (tneg (by simp) (tpos rfl (tneg (by simp) (tpos rfl (tneg (by simp) (tbind (qTempos_tot _ lA) (fun _ e => ?_))))))))
  subst e
  exact fT0 l step (by omega) _ hT c x0 x1 _ hAd lA b frm upt (by omega) _ hB a at_ (by omega) _ hS
end Go.Proofs.Ytjgpngeifgcidaa.Pure
