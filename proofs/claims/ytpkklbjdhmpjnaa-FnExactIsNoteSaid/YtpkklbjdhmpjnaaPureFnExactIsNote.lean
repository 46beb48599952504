/- The plain side of the law FnExactIsNote: lists and numbers alone. -/
import Derived.Test.YtpkklbjdhmpjnaaPFnExactIsNotex1
import Derived.Test.YtpkklbjdhmpjnaaGlue
import Derived.Test.YtpkklbjdhmpjnaaTot
set_option linter.unusedVariables false
set_option linter.unusedSimpArgs false
namespace Go.Proofs.Ytpkklbjdhmpjnaa.Pure
open Go.RowKit Go.Proofs.Ytpkklbjdhmpjnaa.PFnExactIsNote Go.Proofs.YtpkklbjdhmpjnaaW.PrintWords Go.Proofs.YtpkklbjdhmpjnaaW.PrintMore Go.Proofs.Ytpkklbjdhmpjnaa.Tot

theorem l1In_eq (a b c : Int) : spec_l1In.f a b c = some (decide (b ≤ a ∧ a ≤ c)) := by
  unfold spec_l1In.f
  by_cases h : b ≤ a <;> simp [h]

abbrev OkNote (a b c : Int) : Prop := 24 ≤ a ∧ a ≤ 96 ∧ 0 ≤ b ∧ b ≤ 999 ∧ 1 ≤ c ∧ c ≤ 99
theorem ntNote_eq (a b c : Int) : spec_ntNote.f a b c = some (decide (OkNote a b c)) := by
  unfold spec_ntNote.f spec_ntPitch.f OkNote
  simp only [l1In_eq, Option.bind_some, decide_eq_true_eq]
  split
  · split
    · congr 1; rw [Bool.eq_iff_iff]; simp only [decide_eq_true_eq]; omega
    · congr 1; rw [Bool.eq_iff_iff]; simp only [decide_eq_true_eq]; simp; omega
  · congr 1; rw [Bool.eq_iff_iff]; simp only [decide_eq_true_eq]; simp; omega
theorem implIsNote_eq (a b c : Int) : impl_IsNote.f a b c = some (decide (OkNote a b c)) := by
  unfold impl_IsNote.f OkNote
  by_cases h1 : 24 ≤ a <;> by_cases h2 : a ≤ 96 <;> by_cases h3 : 0 ≤ b <;> by_cases h4 : b ≤ 999 <;> by_cases h5 : 1 ≤ c <;> simp [h1, h2, h3, h4, h5] <;> omega


theorem FnExactIsNote (a0_0 : Int) (a0_1 : Int) (a0_2 : Int) (w0_0 : Glue.wf64 a0_0) (w0_1 : Glue.wf64 a0_1) (w0_2 : Glue.wf64 a0_2) : laws_FnExactIsNote.f a0_0 a0_1 a0_2 = some true := by
  unfold laws_FnExactIsNote.f laws_toNote.f spec_IsNote.f
  simp [ntNote_eq, implIsNote_eq]
end Go.Proofs.Ytpkklbjdhmpjnaa.Pure
