import Derived.Test.YtjgpngeifgcidaaDoorPFnExactPitchNamex1
namespace Go.Proofs.YtjgpngeifgcidaaDoor.Pure
open Go.RowKit Go.Proofs.YtjgpngeifgcidaaDoor.PFnExactPitchName Go.Proofs.YtjgpngeifgcidaaDoorW.PrintWords Go.Proofs.YtjgpngeifgcidaaDoorW.PrintLast

theorem isPitch_eq (a : Int) : impl_isPitch.f a = some (decide (24 ≤ a ∧ a ≤ 96)) := by
  unfold impl_isPitch.f
  by_cases h : 24 ≤ a <;> simp [h]
theorem ntPitch_eq (a : Int) : spec_ntPitch.f a = some (decide (24 ≤ a ∧ a ≤ 96)) := by
  unfold spec_ntPitch.f spec_l1In.f
  by_cases h : 24 ≤ a <;> simp [h]
theorem num_eq (q : Int) (h : q < 10) : spec_l1Num.f 1 q = some (strOfNums ([(wrap64 (48 + q)) % 256] : List Int)) := by
  unfold spec_l1Num.f
  rw [if_pos h]
theorem digit (u : Nat) (h : u < 10) : Lib.decDigits u = [UInt8.ofNat (48 + u)] := by
  unfold Lib.decDigits
  rw [dif_pos h]
theorem itoa_eq (q : Int) (h0 : 2 ≤ q) (h1 : q ≤ 8) : itoa.f q = spec_l1Num.f 1 q := by
  rw [num_eq q (by omega)]
  unfold itoa.f
  rw [if_pos (by omega), if_pos (by omega), digit _ (by omega)]
  obtain rfl | rfl | rfl | rfl | rfl | rfl | rfl : q = 2 ∨ q = 3 ∨ q = 4 ∨ q = 5 ∨ q = 6 ∨ q = 7 ∨ q = 8 := by omega
  all_goals (first | rfl | decide | (simp [strOfNums, wrap64]; done) | (unfold strOfNums wrap64; rfl))
theorem name_some (a : Int) (h0 : 24 ≤ a) (h1 : a ≤ 96) : ∃ r, spec_ntName.f 1 a = some r ∧ impl_pitchName.f a = some r := by
  have e1 : Int.tdiv a 12 = a / 12 := Int.tdiv_eq_ediv_of_nonneg (by omega)
  have e2 : Int.tmod a 12 = a % 12 := Int.tmod_eq_emod_of_nonneg (by omega)
  have e3 : wrap64 (a / 12) = a / 12 := by unfold wrap64; omega
  unfold spec_ntName.f impl_pitchName.f spec_ntNames.f
  simp only [e1, e2, e3, Option.bind_some]
  rw [itoa_eq _ (by omega) (by omega), num_eq _ (by omega)]
  simp only [Option.bind_some]
  have hm : a % 12 = 0 ∨ a % 12 = 1 ∨ a % 12 = 2 ∨ a % 12 = 3 ∨ a % 12 = 4 ∨ a % 12 = 5 ∨ a % 12 = 6 ∨ a % 12 = 7 ∨ a % 12 = 8 ∨ a % 12 = 9 ∨ a % 12 = 10 ∨ a % 12 = 11 := by omega
  have hs : ∀ v : Int, (strOfNums ([v] : List Int)).size = 1 := fun v => rfl
  rcases hm with h | h | h | h | h | h | h | h | h | h | h | h <;>
    (rw [h, hs, if_pos (by decide), if_pos (by decide), if_pos (by decide)]; exact ⟨_, rfl, rfl⟩)
theorem FnExactPitchName : laws_FnExactPitchName.Pure := by
  intro a _
  refine ⟨1, ?_⟩
  unfold laws_FnExactPitchName.f spec_PitchName.f impl_PitchName.f
  rw [ntPitch_eq, isPitch_eq]
  simp only [Option.bind_some]
  by_cases h : 24 ≤ a ∧ a ≤ 96
  · rw [decide_eq_true h, if_pos rfl, if_pos rfl]
    obtain ⟨r, h1, h2⟩ := name_some a h.1 h.2
    rw [h1, h2]
    simp
  · rw [decide_eq_false h, if_neg (by simp), if_neg (by simp)]
    simp
end Go.Proofs.YtjgpngeifgcidaaDoor.Pure
