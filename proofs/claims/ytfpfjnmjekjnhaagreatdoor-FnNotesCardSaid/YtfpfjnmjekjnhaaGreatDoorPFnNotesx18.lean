-- by wip/xprint.py, over the kit's printer
import Derived.Test.YtfpfjnmjekjnhaaGreatDoorPFnNotesx0
import Derived.Test.YtfpfjnmjekjnhaaGreatDoorPFnNotesx1
import Derived.Test.YtfpfjnmjekjnhaaGreatDoorPFnNotesx2
import Derived.Test.YtfpfjnmjekjnhaaGreatDoorPFnNotesx7
import Derived.Test.YtfpfjnmjekjnhaaGreatDoorPFnNotesx8
import Derived.Test.YtfpfjnmjekjnhaaGreatDoorPFnNotesx9
import Derived.Test.YtfpfjnmjekjnhaaGreatDoorPFnNotesx10
import Derived.Test.YtfpfjnmjekjnhaaGreatDoorPFnNotesx11
import Derived.Test.YtfpfjnmjekjnhaaGreatDoorPFnNotesx12
import Derived.Test.YtfpfjnmjekjnhaaGreatDoorPFnNotesx13
import Derived.Test.YtfpfjnmjekjnhaaGreatDoorPFnNotesx15
import Derived.Test.YtfpfjnmjekjnhaaGreatDoorPFnNotesx16
import Derived.Test.YtfpfjnmjekjnhaaGreatDoorPFnNotesx17
namespace Go.Proofs.YtfpfjnmjekjnhaaGreatDoor.PFnNotes
open Go.RowKit Go.Proofs.YtfpfjnmjekjnhaaGreatDoorW.PrintWords Go.Proofs.YtfpfjnmjekjnhaaGreatDoorW.PrintLast Go.Proofs.YtfpfjnmjekjnhaaGreatDoorW.PrintMore
attribute [local go_sem] max2_int min2_int max_two min_two max_three min_three max_four min_four   -- for this text's walks alone
set_option linter.unusedVariables false
set_option linter.unusedSimpArgs false

attribute [local go_sem high] eqA31
mutual
def laws_FnNotes.j0 : Nat → List Int → List (S31) → List (S31) → Bool → List (S31) → Bool → Option (Bool)
 | 0, _, _, _, _, _, _ => none
 | k + 1, x1, x5, x6, x7, x8, x63 => if x63 = true then (some false) else (if x7 = true then ((impl_IsScore.f k x6).bind fun t669 => (if t669 = true then (laws_FnNotes.j1 k x1 x5 x8 ((x8.length : Int) != (x5.length : Int))) else (laws_FnNotes.j1 k x1 x5 x8 true))) else (laws_FnNotes.j5 k x1))
def laws_FnNotes.j5 : Nat → List Int → Option (Bool)
 | 0, _ => none
 | k + 1, x1 => (spec_DrawJoinScores.f k x1).bind fun bt675 => ((impl_JoinScores.f k bt675.1 bt675.2).bind fun bt681 => ((spec_JoinScores.f k bt675.1 bt675.2).bind fun bt685 => ((impl_JoinScores.f k bt675.2 bt675.1).bind fun bt689 => (if (bt681.2 != bt685.2) = true then (laws_FnNotes.j6 k x1 true) else ((laws_pSameNotes.f k bt681.1 bt685.1).bind fun t693 => (if t693 = true then (if (bt689.2 != bt681.2) = true then (laws_FnNotes.j6 k x1 true) else ((laws_pSameNotes.f k bt689.1 bt685.1).bind fun t694 => (if t694 = true then (if bt681.2 = true then (laws_FnNotes.j6 k x1 ((bt685.1.length : Int) != (wrap64 ((bt675.1.length : Int) + (bt675.2.length : Int))))) else (laws_FnNotes.j6 k x1 false)) else (laws_FnNotes.j6 k x1 true)))) else (laws_FnNotes.j6 k x1 true)))))))
def laws_FnNotes.j6 : Nat → List Int → Bool → Option (Bool)
 | 0, _, _ => none
 | k + 1, x1, x157 => if x157 = true then (some false) else ((spec_DrawSoundingAt.f k x1).bind fun bt695 => ((impl_SoundingAt.f k bt695.1 bt695.2).bind fun bt699 => ((spec_SoundingAt.f k bt695.1 bt695.2).bind fun bt703 => ((spec_DrawPitchName.f x1).bind fun t707 => ((impl_PitchName.f t707).bind fun bt708 => ((spec_PitchName.f k t707).bind fun bt710 => ((spec_DrawParseScore.f k x1).bind fun t712 => ((impl_ParseScore.f k t712).bind fun bt713 => ((spec_ParseScore.f k t712).bind fun bt717 => ((spec_DrawIsNote.f x1).bind fun bt721 => (if (bt699.2 == bt703.2) = true then ((laws_sameInts.f k bt699.1 bt703.1).bind fun t725 => (if t725 = true then (if (bt708.2 == bt710.2) = true then (if bt708.1.toList = bt710.1.toList then (if (bt713.2 == bt717.2) = true then ((laws_pSameNotes.f k bt713.1 bt717.1).bind fun t726 => (if t726 = true then ((impl_IsNote.f bt721.1 bt721.2.1 bt721.2.2).bind fun t727 => ((spec_IsNote.f bt721.1 bt721.2.1 bt721.2.2).bind fun t728 => (some (t727 == t728)))) else (some false))) else (some false)) else (some false)) else (some false)) else (some false))) else (some false))))))))))))
def laws_FnNotes.j1 : Nat → List Int → List (S31) → List (S31) → Bool → Option (Bool)
 | 0, _, _, _, _ => none
 | k + 1, x1, x5, x8, x74 => if x74 = true then (some false) else (laws_FnNotes.l0 k x1 x8 x5 (x5.length : Int) 0)
def laws_FnNotes.l0 : Nat → List Int → List (S31) → List (S31) → Int → Int → Option (Bool)
 | 0, _, _, _, _, _ => none
 | k + 1, x1, x8, x75, x76, x77 => if x77 < x76 then (if 0 ≤ x77 then (if x77 < (x75.length : Int) then (laws_FnNotes.l1 k x1 x8 false x75 x76 x77 x8 (x8.length : Int) 0 ((rd_T31 x75 x77).f0) ((rd_T31 x75 x77).f1) ((rd_T31 x75 x77).f2)) else (none)) else (none)) else (laws_FnNotes.j5 k x1)
def laws_FnNotes.l1 : Nat → List Int → List (S31) → Bool → List (S31) → Int → Int → List (S31) → Int → Int → Int → Int → Int → Option (Bool)
 | 0, _, _, _, _, _, _, _, _, _, _, _, _ => none
 | k + 1, x1, x8, x12, x75, x76, x77, x81, x82, x83, x672000, x672001, x672002 => if x83 < x82 then (if 0 ≤ x83 then (if x83 < (x81.length : Int) then (if x12 = true then (laws_FnNotes.l1 k x1 x8 true x75 x76 x77 x81 x82 (wrap64 (x83 + 1)) x672000 x672001 x672002) else (laws_FnNotes.l1 k x1 x8 (x672000 == ((rd_T31 x81 x83).f0) && (x672001 == ((rd_T31 x81 x83).f1) && (x672002 == ((rd_T31 x81 x83).f2)))) x75 x76 x77 x81 x82 (wrap64 (x83 + 1)) x672000 x672001 x672002)) else (none)) else (none)) else (if x12 = true then ((impl_IsNote.f x672000 x672001 x672002).bind fun t674 => (laws_FnNotes.j4 k x1 x8 x75 x76 x77 (!t674))) else (laws_FnNotes.j4 k x1 x8 x75 x76 x77 true))
def laws_FnNotes.j4 : Nat → List Int → List (S31) → List (S31) → Int → Int → Bool → Option (Bool)
 | 0, _, _, _, _, _, _ => none
 | k + 1, x1, x8, x75, x76, x77, x100 => if x100 = true then (some false) else (laws_FnNotes.l0 k x1 x8 x75 x76 (wrap64 (x77 + 1)))
end
def laws_FnNotes.f (k : Nat) (l0 : List Int) (l1 : List Int) : Option (Bool) := (laws_big.f l0 l1).bind fun t656 => (if t656 = true then (some true) else ((spec_DrawSortNotes.f k l0).bind fun t657 => ((impl_SortNotes.f k t657).bind fun bt660 => ((spec_SortNotes.f k t657).bind fun bt664 => (if (bt660.2 != bt664.2) = true then (laws_FnNotes.j0 k l1 t657 bt660.1 bt660.2 bt664.1 true) else ((laws_pSameNotes.f k bt660.1 bt664.1).bind fun t668 => (laws_FnNotes.j0 k l1 t657 bt660.1 bt660.2 bt664.1 (!t668))))))))
theorem laws_FnNotes.mono_l : ∀ k, (∀ y0 y1 y2 y3 y4 y5, LeO (laws_FnNotes.j0 k y0 y1 y2 y3 y4 y5) (laws_FnNotes.j0 (k + 1) y0 y1 y2 y3 y4 y5)) ∧ (∀ y0, LeO (laws_FnNotes.j5 k y0) (laws_FnNotes.j5 (k + 1) y0)) ∧ (∀ y0 y1, LeO (laws_FnNotes.j6 k y0 y1) (laws_FnNotes.j6 (k + 1) y0 y1)) ∧ (∀ y0 y1 y2 y3, LeO (laws_FnNotes.j1 k y0 y1 y2 y3) (laws_FnNotes.j1 (k + 1) y0 y1 y2 y3)) ∧ (∀ y0 y1 y2 y3 y4, LeO (laws_FnNotes.l0 k y0 y1 y2 y3 y4) (laws_FnNotes.l0 (k + 1) y0 y1 y2 y3 y4)) ∧ (∀ y0 y1 y2 y3 y4 y5 y6 y7 y8 y9 y10 y11, LeO (laws_FnNotes.l1 k y0 y1 y2 y3 y4 y5 y6 y7 y8 y9 y10 y11) (laws_FnNotes.l1 (k + 1) y0 y1 y2 y3 y4 y5 y6 y7 y8 y9 y10 y11)) ∧ (∀ y0 y1 y2 y3 y4 y5, LeO (laws_FnNotes.j4 k y0 y1 y2 y3 y4 y5) (laws_FnNotes.j4 (k + 1) y0 y1 y2 y3 y4 y5))
 | 0 => ⟨fun _ _ _ _ _ _ r h => by simp [laws_FnNotes.j0] at h, fun _ r h => by simp [laws_FnNotes.j5] at h, fun _ _ r h => by simp [laws_FnNotes.j6] at h, fun _ _ _ _ r h => by simp [laws_FnNotes.j1] at h, fun _ _ _ _ _ r h => by simp [laws_FnNotes.l0] at h, fun _ _ _ _ _ _ _ _ _ _ _ _ r h => by simp [laws_FnNotes.l1] at h, fun _ _ _ _ _ _ r h => by simp [laws_FnNotes.j4] at h⟩
 | k + 1 => by
  obtain ⟨ih0, ih1, ih2, ih3, ih4, ih5, ih6⟩ := laws_FnNotes.mono_l k;refine ⟨?_, ?_, ?_, ?_, ?_, ?_, ?_⟩
  ·intro y0 y1 y2 y3 y4 y5
   unfold laws_FnNotes.j0
   have m0_ := @impl_IsScore.mono;have m1_ := @impl_JoinScores.mono;have m2_ := @impl_ParseScore.mono;have m3_ := @impl_SortNotes.mono;have m4_ := @impl_SoundingAt.mono;have m5_ := @laws_pSameNotes.mono;have m6_ := @laws_sameInts.mono;have m7_ := @spec_DrawJoinScores.mono;have m8_ := @spec_DrawParseScore.mono;have m9_ := @spec_DrawSortNotes.mono;have m10_ := @spec_DrawSoundingAt.mono;have m11_ := @spec_JoinScores.mono;have m12_ := @spec_ParseScore.mono;have m13_ := @spec_PitchName.mono;have m14_ := @spec_SortNotes.mono;have m15_ := @spec_SoundingAt.mono;exact mo_
  ·intro y0
   unfold laws_FnNotes.j5
   have m0_ := @impl_IsScore.mono;have m1_ := @impl_JoinScores.mono;have m2_ := @impl_ParseScore.mono;have m3_ := @impl_SortNotes.mono;have m4_ := @impl_SoundingAt.mono;have m5_ := @laws_pSameNotes.mono;have m6_ := @laws_sameInts.mono;have m7_ := @spec_DrawJoinScores.mono;have m8_ := @spec_DrawParseScore.mono;have m9_ := @spec_DrawSortNotes.mono;have m10_ := @spec_DrawSoundingAt.mono;have m11_ := @spec_JoinScores.mono;have m12_ := @spec_ParseScore.mono;have m13_ := @spec_PitchName.mono;have m14_ := @spec_SortNotes.mono;have m15_ := @spec_SoundingAt.mono;exact mo_
  ·intro y0 y1
   unfold laws_FnNotes.j6
   have m0_ := @impl_IsScore.mono;have m1_ := @impl_JoinScores.mono;have m2_ := @impl_ParseScore.mono;have m3_ := @impl_SortNotes.mono;have m4_ := @impl_SoundingAt.mono;have m5_ := @laws_pSameNotes.mono;have m6_ := @laws_sameInts.mono;have m7_ := @spec_DrawJoinScores.mono;have m8_ := @spec_DrawParseScore.mono;have m9_ := @spec_DrawSortNotes.mono;have m10_ := @spec_DrawSoundingAt.mono;have m11_ := @spec_JoinScores.mono;have m12_ := @spec_ParseScore.mono;have m13_ := @spec_PitchName.mono;have m14_ := @spec_SortNotes.mono;have m15_ := @spec_SoundingAt.mono;exact mo_
  ·intro y0 y1 y2 y3
   unfold laws_FnNotes.j1
   have m0_ := @impl_IsScore.mono;have m1_ := @impl_JoinScores.mono;have m2_ := @impl_ParseScore.mono;have m3_ := @impl_SortNotes.mono;have m4_ := @impl_SoundingAt.mono;have m5_ := @laws_pSameNotes.mono;have m6_ := @laws_sameInts.mono;have m7_ := @spec_DrawJoinScores.mono;have m8_ := @spec_DrawParseScore.mono;have m9_ := @spec_DrawSortNotes.mono;have m10_ := @spec_DrawSoundingAt.mono;have m11_ := @spec_JoinScores.mono;have m12_ := @spec_ParseScore.mono;have m13_ := @spec_PitchName.mono;have m14_ := @spec_SortNotes.mono;have m15_ := @spec_SoundingAt.mono;exact mo_
  ·intro y0 y1 y2 y3 y4
   unfold laws_FnNotes.l0
   have m0_ := @impl_IsScore.mono;have m1_ := @impl_JoinScores.mono;have m2_ := @impl_ParseScore.mono;have m3_ := @impl_SortNotes.mono;have m4_ := @impl_SoundingAt.mono;have m5_ := @laws_pSameNotes.mono;have m6_ := @laws_sameInts.mono;have m7_ := @spec_DrawJoinScores.mono;have m8_ := @spec_DrawParseScore.mono;have m9_ := @spec_DrawSortNotes.mono;have m10_ := @spec_DrawSoundingAt.mono;have m11_ := @spec_JoinScores.mono;have m12_ := @spec_ParseScore.mono;have m13_ := @spec_PitchName.mono;have m14_ := @spec_SortNotes.mono;have m15_ := @spec_SoundingAt.mono;exact mo_
  ·intro y0 y1 y2 y3 y4 y5 y6 y7 y8 y9 y10 y11
   unfold laws_FnNotes.l1
   have m0_ := @impl_IsScore.mono;have m1_ := @impl_JoinScores.mono;have m2_ := @impl_ParseScore.mono;have m3_ := @impl_SortNotes.mono;have m4_ := @impl_SoundingAt.mono;have m5_ := @laws_pSameNotes.mono;have m6_ := @laws_sameInts.mono;have m7_ := @spec_DrawJoinScores.mono;have m8_ := @spec_DrawParseScore.mono;have m9_ := @spec_DrawSortNotes.mono;have m10_ := @spec_DrawSoundingAt.mono;have m11_ := @spec_JoinScores.mono;have m12_ := @spec_ParseScore.mono;have m13_ := @spec_PitchName.mono;have m14_ := @spec_SortNotes.mono;have m15_ := @spec_SoundingAt.mono;exact mo_
  ·intro y0 y1 y2 y3 y4 y5
   unfold laws_FnNotes.j4
   have m0_ := @impl_IsScore.mono;have m1_ := @impl_JoinScores.mono;have m2_ := @impl_ParseScore.mono;have m3_ := @impl_SortNotes.mono;have m4_ := @impl_SoundingAt.mono;have m5_ := @laws_pSameNotes.mono;have m6_ := @laws_sameInts.mono;have m7_ := @spec_DrawJoinScores.mono;have m8_ := @spec_DrawParseScore.mono;have m9_ := @spec_DrawSortNotes.mono;have m10_ := @spec_DrawSoundingAt.mono;have m11_ := @spec_JoinScores.mono;have m12_ := @spec_ParseScore.mono;have m13_ := @spec_PitchName.mono;have m14_ := @spec_SortNotes.mono;have m15_ := @spec_SoundingAt.mono;exact mo_
theorem laws_FnNotes.mono : ∀ a0 a1 k, LeO (laws_FnNotes.f k a0 a1) (laws_FnNotes.f (k + 1) a0 a1) := by
 intro a0 a1 k;obtain ⟨ih0, ih1, ih2, ih3, ih4, ih5, ih6⟩ := laws_FnNotes.mono_l k
 unfold laws_FnNotes.f
 have m0_ := @impl_IsScore.mono;have m1_ := @impl_JoinScores.mono;have m2_ := @impl_ParseScore.mono;have m3_ := @impl_SortNotes.mono;have m4_ := @impl_SoundingAt.mono;have m5_ := @laws_pSameNotes.mono;have m6_ := @laws_sameInts.mono;have m7_ := @spec_DrawJoinScores.mono;have m8_ := @spec_DrawParseScore.mono;have m9_ := @spec_DrawSortNotes.mono;have m10_ := @spec_DrawSoundingAt.mono;have m11_ := @spec_JoinScores.mono;have m12_ := @spec_ParseScore.mono;have m13_ := @spec_PitchName.mono;have m14_ := @spec_SortNotes.mono;have m15_ := @spec_SoundingAt.mono;exact mo_
def laws_FnNotes.T39 : Bool × List (List Nat × List Nat) := (true, [([], []), ([], []), ([0, 1], [0, 1]), ([2], [2]), ([3], [3]), ([3], [3]), ([4, 5, 3, 3], [3, 4, 5]), ([3, 6], [3, 6]), ([7, 6], [7]), ([8], [8]), ([8], [8]), ([9, 10, 8], [8, 9, 10]), ([8, 11], [8, 11]), ([12, 8], [12]), ([13], [13]), ([13], [13]), ([14, 15, 13], [13, 14, 15]), ([13, 16], [13, 16]), ([17, 13], [17]), ([18], [18]), ([18], [18]), ([19, 20, 18], [18, 19, 20]), ([18, 21], [18, 21]), ([22, 18], [22]), ([23], [23]), ([23], [23]), ([24, 25, 23, 23], [23, 24, 25]), ([23, 26], [23, 26]), ([27, 26], [27]), ([28], [28]), ([29, 28, 28], [28, 29]), ([28], [28]), ([31, 30, 28], [28, 31]), ([30, 32, 28], [28, 30, 32]), ([28, 33], [28, 33]), ([34, 32, 0, 1, 2, 3, 4, 5, 6, 7, 8, 9, 10, 11, 12, 13, 14, 15, 16, 17, 18, 19, 20, 21, 22, 23, 24, 25, 26, 27, 28, 29, 30, 31, 32, 33, 34], [34])])
def laws_FnNotes.B39 : List Nat := [0, 0, 3, 7, 15, 15, 63, 127, 255, 511, 511, 2047, 4095, 8191, 16383, 16383, 65535, 131071, 262143, 524287, 524287, 2097151, 4194303, 8388607, 16777215, 16777215, 67108863, 134217727, 268435455, 536870911, 1073741823, 536870911, 4294967295, 8589934591, 17179869183, 34359738367]
theorem laws_FnNotes.tab39 : rtab .any (opsOf Tryz.f3 39) = laws_FnNotes.T39 := by kernel_rfl
theorem laws_FnNotes.bits39 : waitsOk laws_FnNotes.T39.2 laws_FnNotes.B39 = true := by kernel_rfl
theorem df_ {r : Bool} (h : r = true) (H : some false = some r) : False := by subst h; cases H
theorem laws_FnNotes_j0_df {r : Bool} {k : Nat} {x0 : List Int} {x1 : List (S31)} {x2 : List (S31)} {x3 : Bool} {x4 : List (S31)} (h : r = true) (H : laws_FnNotes.j0 k x0 x1 x2 x3 x4 true = some r) : False := by
 subst h
 cases k <;> simp [laws_FnNotes.j0] at H
theorem laws_FnNotes_j6_df {r : Bool} {k : Nat} {x0 : List Int} (h : r = true) (H : laws_FnNotes.j6 k x0 true = some r) : False := by
 subst h
 cases k <;> simp [laws_FnNotes.j6] at H
theorem laws_FnNotes_j1_df {r : Bool} {k : Nat} {x0 : List Int} {x1 : List (S31)} {x2 : List (S31)} (h : r = true) (H : laws_FnNotes.j1 k x0 x1 x2 true = some r) : False := by
 subst h
 cases k <;> simp [laws_FnNotes.j1] at H
theorem laws_FnNotes_j4_df {r : Bool} {k : Nat} {x0 : List Int} {x1 : List (S31)} {x2 : List (S31)} {x3 : Int} {x4 : Int} (h : r = true) (H : laws_FnNotes.j4 k x0 x1 x2 x3 x4 true = some r) : False := by
 subst h
 cases k <;> simp [laws_FnNotes.j4] at H
/-- THE ONE PURE STATEMENT of laws_FnNotes: yours. -/
def laws_FnNotes.Pure : Prop := ∀ (l0 : List Int) (l1 : List Int), l0.length ≤ maxLen → l0.length * 1 ≤ 140737488351232 → (∀ x ∈ l0, (Lit.int .u8 x).wf = true) → l1.length ≤ maxLen → l1.length * 1 ≤ 140737488351232 → (∀ x ∈ l1, (Lit.int .u8 x).wf = true) → ∃ k, laws_FnNotes.f k l0 l1 = some true

end Go.Proofs.YtfpfjnmjekjnhaaGreatDoor.PFnNotes
