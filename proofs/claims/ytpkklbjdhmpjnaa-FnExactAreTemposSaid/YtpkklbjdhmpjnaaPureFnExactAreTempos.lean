/- The plain side of the law FnExactAreTempos: lists and numbers alone. -/
import Derived.Test.YtpkklbjdhmpjnaaPFnExactAreTemposx5
import Derived.Test.YtpkklbjdhmpjnaaGlue
import Derived.Test.YtpkklbjdhmpjnaaTot
set_option linter.unusedVariables false
set_option linter.unusedSimpArgs false
namespace Go.Proofs.Ytpkklbjdhmpjnaa.Pure
open Go.RowKit Go.Proofs.Ytpkklbjdhmpjnaa.PFnExactAreTempos Go.Proofs.YtpkklbjdhmpjnaaW.PrintWords Go.Proofs.YtpkklbjdhmpjnaaW.PrintMore Go.Proofs.Ytpkklbjdhmpjnaa.Tot

theorem l1In_eq (a b c : Int) : spec_l1In.f a b c = some (decide (b ≤ a ∧ a ≤ c)) := by
  unfold spec_l1In.f
  by_cases h : b ≤ a <;> simp [h]

def cvChange (x : S81) : S79 := ⟨x.f0, x.f1⟩
theorem toChangeS (l : List S81) (hl : l.length ≤ 1048576) : Tot (fun k => laws_toChangeS.f k l) (fun r => r = l.map cvChange) := by
  unfold laws_toChangeS.f
  refine tpos (by omega) (tpos (by omega) ?_)
  have key := trec (σ := List S79 × Int) (fun s k => laws_toChangeS.l0 k l s.1 s.2) (fun s => ((l.length : Int) - s.2).toNat)
    (fun s => 0 ≤ s.2 ∧ s.2 ≤ (l.length : Int) ∧ s.1.length = l.length ∧ ∀ j : Int, 0 ≤ j → j < s.2 → s.1.getD j.toNat z79 = cvChange (l.getD j.toNat z81)) (fun _ r => r = l.map cvChange) ?_
  · exact key (List.replicate (l.length : Int).toNat z79, 0) ⟨Int.le_refl _, by dsimp only; omega, by simp, fun j h0 h1 => by dsimp only at h1; omega⟩
  · rintro ⟨ys, i⟩ ⟨h0, h1, h2, h3⟩ ih
    dsimp only at h0 h1 h2 h3
    simp only [laws_toChangeS.l0, laws_toChange.f, Option.bind_some]
    refine tite (fun c => ?_) (fun c => ?_)
    · refine tpos h0 (tpos (by omega) ?_)
      rw [wrap64_id (by omega) (by omega)]
      refine ih (_, i + 1) ⟨by dsimp only; omega, by dsimp only; omega, by simp [h2], ?_⟩ (by dsimp only; omega)
      intro j hj0 hj1
      dsimp only at hj1 ⊢
      by_cases e : j = i
      · subst e; rw [ld_set_self _ _ (by omega) hj0]; rfl
      · rw [ld_set_ne _ _ _ h0 hj0 (by omega)]; exact h3 j hj0 (by omega)
    · exact tsome (write_end h2 (fun j a b => h3 j a (by omega)))

theorem eqChangeS (l : List S79) (hl : l.length ≤ 1048576) : Tot (fun k => laws_eqChangeS.f k l l) (fun r => r = true) := by
  unfold laws_eqChangeS.f
  refine tpos rfl ?_
  refine trec (σ := Int) (fun i k => laws_eqChangeS.l0 k l l i) (fun i => ((l.length : Int) - i).toNat) (fun i => 0 ≤ i ∧ i ≤ (l.length : Int)) (fun _ r => r = true) ?_ 0 ⟨Int.le_refl _, by omega⟩
  rintro i ⟨h0, h1⟩ ih
  simp only [laws_eqChangeS.l0, laws_eqChange.f, if_true, Option.bind_some]
  refine tite (fun c => ?_) (fun c => tsome rfl)
  refine tpos h0 (tpos (by omega) ?_)
  rw [wrap64_id (by omega) (by omega)]
  exact ih (i + 1) ⟨by omega, by omega⟩ (by (try dsimp only); omega)

theorem szChangeS (l : List S81) (n : Int) (hn : 0 ≤ n) (hn2 : n ≤ 1048576) (hl : l.length ≤ 9223372036854775807) : laws_szChangeS.f l n = some (if n < l.length then -1 else n - l.length) := by
  unfold laws_szChangeS.f
  simp (disch := omega) only [wrap64_id]
  by_cases h : n < l.length
  · rw [if_pos (by omega), if_pos h]
  · rw [if_neg (by omega), if_neg h]

def OkChange (x : S79) : Prop := 0 ≤ x.f0 ∧ x.f0 ≤ 2000 ∧ 1000 ≤ x.f1 ∧ x.f1 ≤ 1000000
theorem teChange_eq (a b : Int) : spec_teChange.f a b = some (decide (0 ≤ a ∧ a ≤ 2000 ∧ 1000 ≤ b ∧ b ≤ 1000000)) := by
  unfold spec_teChange.f
  simp only [l1In_eq, Option.bind_some, decide_eq_true_eq]
  split
  · congr 1; rw [Bool.eq_iff_iff]; simp only [decide_eq_true_eq]; omega
  · congr 1; rw [Bool.eq_iff_iff]; simp only [decide_eq_true_eq]; simp; omega
theorem isChange_eq (a b : Int) : impl_isChange.f a b = some (decide (0 ≤ a ∧ a ≤ 2000 ∧ 1000 ≤ b ∧ b ≤ 1000000)) := by
  unfold impl_isChange.f
  by_cases h1 : 0 ≤ a <;> by_cases h2 : a ≤ 2000 <;> by_cases h3 : 1000 ≤ b <;> simp [h1, h2, h3] <;> omega
def TeC (l : List S79) (j : Int) : Prop := OkChange (rd_T79 l j) ∧ (j = 0 → (rd_T79 l j).f0 = 0) ∧ (0 < j → (rd_T79 l (j - 1)).f0 < (rd_T79 l j).f0)
def TeGood (l : List S79) : Prop := (∀ j : Int, 0 ≤ j → j < (l.length : Int) → TeC l j) ∧ (1 ≤ (l.length : Int) ∧ (l.length : Int) ≤ 20)
theorem teGood_tot (l : List S79) (hl : l.length ≤ 1048576) : Tot (fun k => spec_teGood.f k l) (fun b => (b = true) ↔ TeGood l) := by
  unfold spec_teGood.f
  refine trec (σ := Int) (fun i k => spec_teGood.l0 k l l (l.length : Int) i) (fun i => ((l.length : Int) - i).toNat) (fun i => 0 ≤ i ∧ i ≤ (l.length : Int))
    (fun i b => (b = true) ↔ ((∀ j : Int, i ≤ j → j < (l.length : Int) → TeC l j) ∧ (1 ≤ (l.length : Int) ∧ (l.length : Int) ≤ 20))) ?_ 0 ⟨Int.le_refl _, by omega⟩
  rintro i ⟨h0, h1⟩ ih
  simp only [spec_teGood.l0, teChange_eq, l1In_eq, Option.bind_some, decide_eq_true_eq]
  simp only [show wrap64 (i + 1) = i + 1 from wrap64_id (by omega) (by omega), show wrap64 (i - 1) = i - 1 from wrap64_id (by omega) (by omega)]
  repeat' (refine tite (fun _ => ?_) (fun _ => ?_))
  all_goals first
    | (exfalso; omega)
    | exact tsome (all_no (by omega) (by unfold TeC OkChange; omega))
    | exact tmono (ih (i + 1) ⟨by omega, by omega⟩ (by (try dsimp only); omega)) (fun b hb => all_go (by omega) (by unfold TeC OkChange; omega) hb)
    | exact tsome (all_end (by omega) (by simp only [decide_eq_true_eq]))
theorem specAreTempos_tot (l : List S79) (hl : l.length ≤ 1048576) : Tot (fun k => spec_AreTempos.f k l) (fun b => (b = true) ↔ TeGood l) := by
  unfold spec_AreTempos.f
  exact tbind (teGood_tot l hl) (fun b hb => tsome hb)
theorem areTempos_tot (l : List S79) (hl : l.length ≤ 1048576) : Tot (fun k => impl_AreTempos.f k l) (fun b => (b = true) ↔ TeGood l) := by
  have key : 1 ≤ (l.length : Int) → (l.length : Int) ≤ 20 → (rd_T79 l 0).f0 = 0 → Tot (fun k => impl_AreTempos.l0 k l l (l.length : Int) 0) (fun b => (b = true) ↔ TeGood l) := by
    intro g1 g2 g3
    refine tmono (trec (σ := Int) (fun i k => impl_AreTempos.l0 k l l (l.length : Int) i) (fun i => ((l.length : Int) - i).toNat) (fun i => 0 ≤ i ∧ i ≤ (l.length : Int))
      (fun i b => (b = true) ↔ ((∀ j : Int, i ≤ j → j < (l.length : Int) → TeC l j) ∧ True)) ?_ 0 ⟨Int.le_refl _, by omega⟩) (fun b hb => ?_)
    · rintro i ⟨h0, h1⟩ ih
      have g4 : i = 0 → (rd_T79 l i).f0 = 0 := by rintro rfl; exact g3
      simp only [impl_AreTempos.l0, isChange_eq, Option.bind_some, decide_eq_true_eq]
      simp only [show wrap64 (i + 1) = i + 1 from wrap64_id (by omega) (by omega), show wrap64 (i - 1) = i - 1 from wrap64_id (by omega) (by omega)]
      repeat' (refine tite (fun _ => ?_) (fun _ => ?_))
      all_goals first
        | (exfalso; omega)
        | exact tsome (all_no (by omega) (by unfold TeC OkChange; omega))
        | exact tmono (ih (i + 1) ⟨by omega, by omega⟩ (by (try dsimp only); omega)) (fun b hb => all_go (by omega) (by unfold TeC OkChange; omega) hb)
        | exact tsome (all_end (by omega) (by simp))
    · rw [hb]; unfold TeGood
      exact ⟨fun h => ⟨h.1, g1, g2⟩, fun h => ⟨h.1, trivial⟩⟩
  have no : ∀ g : Nat → Option Bool, (∀ k, g k = impl_AreTempos.j0 k l true) → ¬ TeGood l → Tot g (fun b => (b = true) ↔ TeGood l) := by
    intro g hg hn
    refine tstep (tconst (r := false) (fun k => ?_) ⟨fun h => by simp at h, fun h => absurd h hn⟩)
    rw [hg]; simp only [impl_AreTempos.j0, if_true]
  unfold impl_AreTempos.f
  refine tite (fun c => no _ (fun _ => rfl) (fun h => by have := h.2; omega)) (fun c1 => ?_)
  refine tite (fun c => no _ (fun _ => rfl) (fun h => by have := h.2; omega)) (fun c2 => ?_)
  refine tpos (by omega) ?_
  by_cases h : (rd_T79 l 0).f0 = 0
  · rw [show ((rd_T79 l 0).f0 != 0) = false by simp [h]]
    refine tstep ?_
    simp only [impl_AreTempos.j0]
    exact tneg (by simp) (key (by omega) (by omega) h)
  · rw [show ((rd_T79 l 0).f0 != 0) = true by simp [h]]
    exact no _ (fun _ => rfl) (fun g => h ((g.1 0 (by omega) (by omega)).2.1 rfl))


theorem FnExactAreTempos (l0 : List (S81)) (hm0 : l0.length ≤ 9223372036854775807) (hw0 : ∀ y ∈ l0, Glue.wf64 y.f0 ∧ Glue.wf64 y.f1) : ∃ k, laws_FnExactAreTempos.f k l0 = some true := by
  refine rounds ?_
  unfold laws_FnExactAreTempos.f
  rw [szChangeS _ _ (by omega) (by omega) hm0]
  simp only [Option.bind_some]
  by_cases hl : (1048576 : Int) < (l0.length : Int)
  · simp only [if_pos hl]
    exact tpos (by omega) (tsome rfl)
  · simp only [if_neg hl]
    refine tneg (by omega) ?_
    refine tbind (toChangeS l0 (by omega)) (fun _ e => ?_); subst e
    refine tbind (specAreTempos_tot _ (by simp; omega)) (fun b1 h1 => ?_)
    refine tbind (toChangeS l0 (by omega)) (fun _ e => ?_); subst e
    refine tbind (areTempos_tot _ (by simp; omega)) (fun b2 h2 => ?_)
    have e : b2 = b1 := by rw [Bool.eq_iff_iff, h1, h2]
    subst e
    refine tneg (by simp) ?_
    refine tbind (toChangeS l0 (by omega)) (fun _ e => ?_); subst e
    refine tbind (eqChangeS _ (by simp; omega)) (fun _ e => ?_); subst e
    exact tpos rfl (tsome rfl)
end Go.Proofs.Ytpkklbjdhmpjnaa.Pure
