/- The plain side of the law FnExactIsHole: lists and numbers alone. -/
import Derived.Test.YtpkklbjdhmpjnaaPFnExactIsHolex1
import Derived.Test.YtpkklbjdhmpjnaaGlue
import Derived.Test.YtpkklbjdhmpjnaaTot
set_option linter.unusedVariables false
set_option linter.unusedSimpArgs false
namespace Go.Proofs.Ytpkklbjdhmpjnaa.Pure
open Go.RowKit Go.Proofs.Ytpkklbjdhmpjnaa.PFnExactIsHole Go.Proofs.YtpkklbjdhmpjnaaW.PrintWords Go.Proofs.YtpkklbjdhmpjnaaW.PrintMore Go.Proofs.Ytpkklbjdhmpjnaa.Tot

theorem l1In_eq (a b c : Int) : spec_l1In.f a b c = some (decide (b ≤ a ∧ a ≤ c)) := by
  unfold spec_l1In.f
  by_cases h : b ≤ a <;> simp [h]

abbrev OkHole (a b c : Int) : Prop := 0 ≤ a ∧ a ≤ 19 ∧ 0 ≤ b ∧ b < c ∧ c ≤ 2000
theorem shHole_eq (a b c : Int) (hb : Glue.wf64 b) : spec_shHole.f a b c = some (decide (OkHole a b c)) := by
  unfold spec_shHole.f OkHole
  simp only [l1In_eq, Option.bind_some, decide_eq_true_eq]
  split
  · split
    · rw [wrap64_id (by omega) (by omega)]
      congr 1; rw [Bool.eq_iff_iff]; simp only [decide_eq_true_eq]; omega
    · congr 1; rw [Bool.eq_iff_iff]; simp only [decide_eq_true_eq]; simp; omega
  · congr 1; rw [Bool.eq_iff_iff]; simp only [decide_eq_true_eq]; simp; omega
theorem implIsHole_eq (a b c : Int) : impl_IsHole.f a b c = some (decide (OkHole a b c)) := by
  unfold impl_IsHole.f impl_isTrack.f OkHole
  by_cases h1 : 0 ≤ a <;> by_cases h2 : a < 20 <;> by_cases h3 : 0 ≤ b <;> by_cases h4 : b < c <;> simp [h1, h2, h3, h4] <;> omega


theorem FnExactIsHole (a0_0 : Int) (a0_1 : Int) (a0_2 : Int) (w0_0 : Glue.wf64 a0_0) (w0_1 : Glue.wf64 a0_1) (w0_2 : Glue.wf64 a0_2) : laws_FnExactIsHole.f a0_0 a0_1 a0_2 = some true := by
  unfold laws_FnExactIsHole.f laws_toHole.f spec_IsHole.f
  simp [shHole_eq _ _ _ w0_1, implIsHole_eq]
end Go.Proofs.Ytpkklbjdhmpjnaa.Pure
