-- by wip/xprint.py, over the kit's printer
import Derived.Test.YtfpfjnmjekjnhaaGreatDoorPFnScoresx0
import Derived.Test.YtfpfjnmjekjnhaaGreatDoorPFnScoresx2
import Derived.Test.YtfpfjnmjekjnhaaGreatDoorPFnScoresx3
import Derived.Test.YtfpfjnmjekjnhaaGreatDoorPFnScoresx4
import Derived.Test.YtfpfjnmjekjnhaaGreatDoorPFnScoresx5
import Derived.Test.YtfpfjnmjekjnhaaGreatDoorPFnScoresx6
import Derived.Test.YtfpfjnmjekjnhaaGreatDoorPFnScoresx12
import Derived.Test.YtfpfjnmjekjnhaaGreatDoorPFnScoresx13
import Derived.Test.YtfpfjnmjekjnhaaGreatDoorPFnScoresx14
import Derived.Test.YtfpfjnmjekjnhaaGreatDoorPFnScoresx15
import Derived.Test.YtfpfjnmjekjnhaaGreatDoorPFnScoresx16
import Derived.Test.YtfpfjnmjekjnhaaGreatDoorPFnScoresx17
namespace Go.Proofs.YtfpfjnmjekjnhaaGreatDoor.PFnScores
open Go.RowKit Go.Proofs.YtfpfjnmjekjnhaaGreatDoorW.PrintWords Go.Proofs.YtfpfjnmjekjnhaaGreatDoorW.PrintLast Go.Proofs.YtfpfjnmjekjnhaaGreatDoorW.PrintMore
attribute [local go_sem] max2_int min2_int max_two min_two max_three min_three max_four min_four   -- for this text's walks alone
set_option linter.unusedVariables false
set_option linter.unusedSimpArgs false

mutual
def laws_FnScores.j0 : Nat → List Int → List (S31) → ByteArray → Bool → Int → Int → Int → Bool → Option (Bool)
 | 0, _, _, _, _, _, _, _, _ => none
 | k + 1, x1, x5, x6, x7, x12, x17, x18, x138 => if x138 = true then (some false) else (if x7 = true then ((impl_ParseScore.f k x6).bind fun bt527 => ((impl_SortNotes.f k x5).bind fun bt531 => ((impl_SoundingAt.f k x5 x12).bind fun bt535 => (if bt527.2 = true then ((laws_pSameNotes.f k bt527.1 x5).bind fun t539 => (if t539 = true then (if bt531.2 = true then ((laws_pSameNotes.f k bt531.1 x5).bind fun t540 => (if t540 = true then (if bt535.2 = true then (laws_FnScores.j1 k x1 x5 x12 x17 x18 (decide ((bt535.1.length : Int) > 0))) else (laws_FnScores.j1 k x1 x5 x12 x17 x18 true)) else (laws_FnScores.j1 k x1 x5 x12 x17 x18 true))) else (laws_FnScores.j1 k x1 x5 x12 x17 x18 true)) else (laws_FnScores.j1 k x1 x5 x12 x17 x18 true))) else (laws_FnScores.j1 k x1 x5 x12 x17 x18 true))))) else (laws_FnScores.j4 k x1))
def laws_FnScores.j4 : Nat → List Int → Option (Bool)
 | 0, _ => none
 | k + 1, x1 => (spec_DrawTransposeScore.f k x1).bind fun bt553 => ((impl_TransposeScore.f k bt553.1 bt553.2).bind fun bt557 => ((spec_TransposeScore.f k bt553.1 bt553.2).bind fun bt561 => ((spec_DrawMoveScore.f k x1).bind fun bt565 => ((impl_MoveScore.f k bt565.1 bt565.2).bind fun bt569 => ((spec_MoveScore.f k bt565.1 bt565.2).bind fun bt573 => (if (bt557.2 != bt561.2) = true then (laws_FnScores.j5 k bt553.1 bt553.2 bt557.1 bt557.2 bt565.1 bt565.2 bt569.1 bt569.2 true) else ((laws_pSameNotes.f k bt557.1 bt561.1).bind fun t577 => (if t577 = true then (if (bt569.2 != bt573.2) = true then (laws_FnScores.j5 k bt553.1 bt553.2 bt557.1 bt557.2 bt565.1 bt565.2 bt569.1 bt569.2 true) else ((laws_pSameNotes.f k bt569.1 bt573.1).bind fun t578 => (laws_FnScores.j5 k bt553.1 bt553.2 bt557.1 bt557.2 bt565.1 bt565.2 bt569.1 bt569.2 (!t578)))) else (laws_FnScores.j5 k bt553.1 bt553.2 bt557.1 bt557.2 bt565.1 bt565.2 bt569.1 bt569.2 true)))))))))
def laws_FnScores.j5 : Nat → List (S31) → Int → List (S31) → Bool → List (S31) → Int → List (S31) → Bool → Bool → Option (Bool)
 | 0, _, _, _, _, _, _, _, _, _ => none
 | k + 1, x32, x33, x34, x35, x38, x39, x40, x41, x302 => if x302 = true then (some false) else (if x35 = true then ((impl_TransposeScore.f k x34 (wrap64 (-x33))).bind fun bt579 => (if bt579.2 = true then ((laws_pSameNotes.f k bt579.1 x32).bind fun t583 => (laws_FnScores.j6 k x38 x39 x40 x41 (!t583))) else (laws_FnScores.j6 k x38 x39 x40 x41 true))) else (laws_FnScores.j7 k x38 x39 x40 x41))
def laws_FnScores.j7 : Nat → List (S31) → Int → List (S31) → Bool → Option (Bool)
 | 0, _, _, _, _ => none
 | k + 1, x38, x39, x40, x41 => if x41 = true then ((impl_MoveScore.f k x40 (wrap64 (-x39))).bind fun bt584 => (if bt584.2 = true then ((laws_pSameNotes.f k bt584.1 x38).bind fun t588 => (laws_FnScores.j8 k (!t588))) else (laws_FnScores.j8 k true))) else (some true)
def laws_FnScores.j8 : Nat → Bool → Option (Bool)
 | 0, _ => none
 | k + 1, x334 => if x334 = true then (some false) else (some true)
def laws_FnScores.j6 : Nat → List (S31) → Int → List (S31) → Bool → Bool → Option (Bool)
 | 0, _, _, _, _, _ => none
 | k + 1, x38, x39, x40, x41, x318 => if x318 = true then (some false) else (laws_FnScores.j7 k x38 x39 x40 x41)
def laws_FnScores.j1 : Nat → List Int → List (S31) → Int → Int → Int → Bool → Option (Bool)
 | 0, _, _, _, _, _, _ => none
 | k + 1, x1, x5, x12, x17, x18, x182 => if x182 = true then (some false) else (laws_FnScores.l0 k x1 x5 x12 x17 x18 x5 (x5.length : Int) 0)
def laws_FnScores.l0 : Nat → List Int → List (S31) → Int → Int → Int → List (S31) → Int → Int → Option (Bool)
 | 0, _, _, _, _, _, _, _, _ => none
 | k + 1, x1, x5, x12, x17, x18, x183, x184, x185 => if x185 < x184 then (if 0 ≤ x185 then (if x185 < (x183.length : Int) then ((impl_SoundingAt.f k x5 ((rd_T31 x183 x185).f1)).bind fun bt543 => ((impl_SoundingAt.f k x5 (wrap64 ((wrap64 (((rd_T31 x183 x185).f1) + ((rd_T31 x183 x185).f2))) - 1))).bind fun bt547 => (if bt543.2 = true then ((laws_pIn.f k bt543.1 ((rd_T31 x183 x185).f0)).bind fun t551 => (if t551 = true then (if bt547.2 = true then ((laws_pIn.f k bt547.1 ((rd_T31 x183 x185).f0)).bind fun t552 => (if t552 = true then (if ((rd_T31 x183 x185).f0) < x17 then (laws_FnScores.j3 k x1 x5 x12 x17 x18 x183 x184 x185 true) else (if ((rd_T31 x183 x185).f0) > x18 then (laws_FnScores.j3 k x1 x5 x12 x17 x18 x183 x184 x185 true) else (laws_FnScores.j3 k x1 x5 x12 x17 x18 x183 x184 x185 (decide ((wrap64 (((rd_T31 x183 x185).f1) + ((rd_T31 x183 x185).f2))) > x12))))) else (laws_FnScores.j3 k x1 x5 x12 x17 x18 x183 x184 x185 true))) else (laws_FnScores.j3 k x1 x5 x12 x17 x18 x183 x184 x185 true)) else (laws_FnScores.j3 k x1 x5 x12 x17 x18 x183 x184 x185 true))) else (laws_FnScores.j3 k x1 x5 x12 x17 x18 x183 x184 x185 true)))) else (none)) else (none)) else (laws_FnScores.j4 k x1)
def laws_FnScores.j3 : Nat → List Int → List (S31) → Int → Int → Int → List (S31) → Int → Int → Bool → Option (Bool)
 | 0, _, _, _, _, _, _, _, _, _ => none
 | k + 1, x1, x5, x12, x17, x18, x183, x184, x185, x247 => if x247 = true then (some false) else (laws_FnScores.l0 k x1 x5 x12 x17 x18 x183 x184 (wrap64 (x185 + 1)))
end
def laws_FnScores.f (k : Nat) (l0 : List Int) (l1 : List Int) : Option (Bool) := (laws_big.f l0 l1).bind fun t507 => (if t507 = true then (some true) else ((spec_DrawScoreText.f k l0).bind fun t508 => ((impl_ScoreText.f k t508).bind fun bt511 => ((spec_ScoreText.f k t508).bind fun bt513 => ((impl_EndOfScore.f k t508).bind fun bt515 => ((spec_EndOfScore.f k t508).bind fun bt517 => ((impl_RangeOf.f k t508).bind fun bt519 => ((spec_RangeOf.f k t508).bind fun bt522 => (if (bt511.2 != bt513.2) = true then (laws_FnScores.j0 k l1 t508 bt511.1 bt511.2 bt517.1 bt522.1 bt522.2.1 true) else (if bt511.1.toList = bt513.1.toList then (if (bt515.2 != bt517.2) = true then (laws_FnScores.j0 k l1 t508 bt511.1 bt511.2 bt517.1 bt522.1 bt522.2.1 true) else (if bt515.1 = bt517.1 then (if (bt519.2.2 != bt522.2.2) = true then (laws_FnScores.j0 k l1 t508 bt511.1 bt511.2 bt517.1 bt522.1 bt522.2.1 true) else (if bt519.1 = bt522.1 then (if bt519.2.1 = bt522.2.1 then (if (bt515.2 != bt511.2) = true then (laws_FnScores.j0 k l1 t508 bt511.1 bt511.2 bt517.1 bt522.1 bt522.2.1 true) else (if bt511.2 = true then (if (bt519.2.2 != (decide ((t508.length : Int) > 0))) = true then (laws_FnScores.j0 k l1 t508 bt511.1 bt511.2 bt517.1 bt522.1 bt522.2.1 true) else ((impl_IsScore.f k t508).bind fun t525 => (laws_FnScores.j0 k l1 t508 bt511.1 bt511.2 bt517.1 bt522.1 bt522.2.1 (t525 != bt511.2)))) else (if (bt519.2.2 != false) = true then (laws_FnScores.j0 k l1 t508 bt511.1 bt511.2 bt517.1 bt522.1 bt522.2.1 true) else ((impl_IsScore.f k t508).bind fun t526 => (laws_FnScores.j0 k l1 t508 bt511.1 bt511.2 bt517.1 bt522.1 bt522.2.1 (t526 != bt511.2)))))) else (laws_FnScores.j0 k l1 t508 bt511.1 bt511.2 bt517.1 bt522.1 bt522.2.1 true)) else (laws_FnScores.j0 k l1 t508 bt511.1 bt511.2 bt517.1 bt522.1 bt522.2.1 true))) else (laws_FnScores.j0 k l1 t508 bt511.1 bt511.2 bt517.1 bt522.1 bt522.2.1 true))) else (laws_FnScores.j0 k l1 t508 bt511.1 bt511.2 bt517.1 bt522.1 bt522.2.1 true)))))))))))
theorem laws_FnScores.mono_l : ∀ k, (∀ y0 y1 y2 y3 y4 y5 y6 y7, LeO (laws_FnScores.j0 k y0 y1 y2 y3 y4 y5 y6 y7) (laws_FnScores.j0 (k + 1) y0 y1 y2 y3 y4 y5 y6 y7)) ∧ (∀ y0, LeO (laws_FnScores.j4 k y0) (laws_FnScores.j4 (k + 1) y0)) ∧ (∀ y0 y1 y2 y3 y4 y5 y6 y7 y8, LeO (laws_FnScores.j5 k y0 y1 y2 y3 y4 y5 y6 y7 y8) (laws_FnScores.j5 (k + 1) y0 y1 y2 y3 y4 y5 y6 y7 y8)) ∧ (∀ y0 y1 y2 y3, LeO (laws_FnScores.j7 k y0 y1 y2 y3) (laws_FnScores.j7 (k + 1) y0 y1 y2 y3)) ∧ (∀ y0, LeO (laws_FnScores.j8 k y0) (laws_FnScores.j8 (k + 1) y0)) ∧ (∀ y0 y1 y2 y3 y4, LeO (laws_FnScores.j6 k y0 y1 y2 y3 y4) (laws_FnScores.j6 (k + 1) y0 y1 y2 y3 y4)) ∧ (∀ y0 y1 y2 y3 y4 y5, LeO (laws_FnScores.j1 k y0 y1 y2 y3 y4 y5) (laws_FnScores.j1 (k + 1) y0 y1 y2 y3 y4 y5)) ∧ (∀ y0 y1 y2 y3 y4 y5 y6 y7, LeO (laws_FnScores.l0 k y0 y1 y2 y3 y4 y5 y6 y7) (laws_FnScores.l0 (k + 1) y0 y1 y2 y3 y4 y5 y6 y7)) ∧ (∀ y0 y1 y2 y3 y4 y5 y6 y7 y8, LeO (laws_FnScores.j3 k y0 y1 y2 y3 y4 y5 y6 y7 y8) (laws_FnScores.j3 (k + 1) y0 y1 y2 y3 y4 y5 y6 y7 y8))
 | 0 => ⟨fun _ _ _ _ _ _ _ _ r h => by simp [laws_FnScores.j0] at h, fun _ r h => by simp [laws_FnScores.j4] at h, fun _ _ _ _ _ _ _ _ _ r h => by simp [laws_FnScores.j5] at h, fun _ _ _ _ r h => by simp [laws_FnScores.j7] at h, fun _ r h => by simp [laws_FnScores.j8] at h, fun _ _ _ _ _ r h => by simp [laws_FnScores.j6] at h, fun _ _ _ _ _ _ r h => by simp [laws_FnScores.j1] at h, fun _ _ _ _ _ _ _ _ r h => by simp [laws_FnScores.l0] at h, fun _ _ _ _ _ _ _ _ _ r h => by simp [laws_FnScores.j3] at h⟩
 | k + 1 => by
  obtain ⟨ih0, ih1, ih2, ih3, ih4, ih5, ih6, ih7, ih8⟩ := laws_FnScores.mono_l k;refine ⟨?_, ?_, ?_, ?_, ?_, ?_, ?_, ?_, ?_⟩
  ·intro y0 y1 y2 y3 y4 y5 y6 y7
   unfold laws_FnScores.j0
   have m0_ := @impl_EndOfScore.mono;have m1_ := @impl_IsScore.mono;have m2_ := @impl_MoveScore.mono;have m3_ := @impl_ParseScore.mono;have m4_ := @impl_RangeOf.mono;have m5_ := @impl_ScoreText.mono;have m6_ := @impl_SortNotes.mono;have m7_ := @impl_SoundingAt.mono;have m8_ := @impl_TransposeScore.mono;have m9_ := @laws_pIn.mono;have m10_ := @laws_pSameNotes.mono;have m11_ := @spec_DrawMoveScore.mono;have m12_ := @spec_DrawScoreText.mono;have m13_ := @spec_DrawTransposeScore.mono;have m14_ := @spec_EndOfScore.mono;have m15_ := @spec_MoveScore.mono;have m16_ := @spec_RangeOf.mono;have m17_ := @spec_ScoreText.mono;have m18_ := @spec_TransposeScore.mono;exact mo_
  ·intro y0
   unfold laws_FnScores.j4
   have m0_ := @impl_EndOfScore.mono;have m1_ := @impl_IsScore.mono;have m2_ := @impl_MoveScore.mono;have m3_ := @impl_ParseScore.mono;have m4_ := @impl_RangeOf.mono;have m5_ := @impl_ScoreText.mono;have m6_ := @impl_SortNotes.mono;have m7_ := @impl_SoundingAt.mono;have m8_ := @impl_TransposeScore.mono;have m9_ := @laws_pIn.mono;have m10_ := @laws_pSameNotes.mono;have m11_ := @spec_DrawMoveScore.mono;have m12_ := @spec_DrawScoreText.mono;have m13_ := @spec_DrawTransposeScore.mono;have m14_ := @spec_EndOfScore.mono;have m15_ := @spec_MoveScore.mono;have m16_ := @spec_RangeOf.mono;have m17_ := @spec_ScoreText.mono;have m18_ := @spec_TransposeScore.mono;exact mo_
  ·intro y0 y1 y2 y3 y4 y5 y6 y7 y8
   unfold laws_FnScores.j5
   have m0_ := @impl_EndOfScore.mono;have m1_ := @impl_IsScore.mono;have m2_ := @impl_MoveScore.mono;have m3_ := @impl_ParseScore.mono;have m4_ := @impl_RangeOf.mono;have m5_ := @impl_ScoreText.mono;have m6_ := @impl_SortNotes.mono;have m7_ := @impl_SoundingAt.mono;have m8_ := @impl_TransposeScore.mono;have m9_ := @laws_pIn.mono;have m10_ := @laws_pSameNotes.mono;have m11_ := @spec_DrawMoveScore.mono;have m12_ := @spec_DrawScoreText.mono;have m13_ := @spec_DrawTransposeScore.mono;have m14_ := @spec_EndOfScore.mono;have m15_ := @spec_MoveScore.mono;have m16_ := @spec_RangeOf.mono;have m17_ := @spec_ScoreText.mono;have m18_ := @spec_TransposeScore.mono;exact mo_
  ·intro y0 y1 y2 y3
   unfold laws_FnScores.j7
   have m0_ := @impl_EndOfScore.mono;have m1_ := @impl_IsScore.mono;have m2_ := @impl_MoveScore.mono;have m3_ := @impl_ParseScore.mono;have m4_ := @impl_RangeOf.mono;have m5_ := @impl_ScoreText.mono;have m6_ := @impl_SortNotes.mono;have m7_ := @impl_SoundingAt.mono;have m8_ := @impl_TransposeScore.mono;have m9_ := @laws_pIn.mono;have m10_ := @laws_pSameNotes.mono;have m11_ := @spec_DrawMoveScore.mono;have m12_ := @spec_DrawScoreText.mono;have m13_ := @spec_DrawTransposeScore.mono;have m14_ := @spec_EndOfScore.mono;have m15_ := @spec_MoveScore.mono;have m16_ := @spec_RangeOf.mono;have m17_ := @spec_ScoreText.mono;have m18_ := @spec_TransposeScore.mono;exact mo_
  ·intro y0
   unfold laws_FnScores.j8
   have m0_ := @impl_EndOfScore.mono;have m1_ := @impl_IsScore.mono;have m2_ := @impl_MoveScore.mono;have m3_ := @impl_ParseScore.mono;have m4_ := @impl_RangeOf.mono;have m5_ := @impl_ScoreText.mono;have m6_ := @impl_SortNotes.mono;have m7_ := @impl_SoundingAt.mono;have m8_ := @impl_TransposeScore.mono;have m9_ := @laws_pIn.mono;have m10_ := @laws_pSameNotes.mono;have m11_ := @spec_DrawMoveScore.mono;have m12_ := @spec_DrawScoreText.mono;have m13_ := @spec_DrawTransposeScore.mono;have m14_ := @spec_EndOfScore.mono;have m15_ := @spec_MoveScore.mono;have m16_ := @spec_RangeOf.mono;have m17_ := @spec_ScoreText.mono;have m18_ := @spec_TransposeScore.mono;exact mo_
  ·intro y0 y1 y2 y3 y4
   unfold laws_FnScores.j6
   have m0_ := @impl_EndOfScore.mono;have m1_ := @impl_IsScore.mono;have m2_ := @impl_MoveScore.mono;have m3_ := @impl_ParseScore.mono;have m4_ := @impl_RangeOf.mono;have m5_ := @impl_ScoreText.mono;have m6_ := @impl_SortNotes.mono;have m7_ := @impl_SoundingAt.mono;have m8_ := @impl_TransposeScore.mono;have m9_ := @laws_pIn.mono;have m10_ := @laws_pSameNotes.mono;have m11_ := @spec_DrawMoveScore.mono;have m12_ := @spec_DrawScoreText.mono;have m13_ := @spec_DrawTransposeScore.mono;have m14_ := @spec_EndOfScore.mono;have m15_ := @spec_MoveScore.mono;have m16_ := @spec_RangeOf.mono;have m17_ := @spec_ScoreText.mono;have m18_ := @spec_TransposeScore.mono;exact mo_
  ·intro y0 y1 y2 y3 y4 y5
   unfold laws_FnScores.j1
   have m0_ := @impl_EndOfScore.mono;have m1_ := @impl_IsScore.mono;have m2_ := @impl_MoveScore.mono;have m3_ := @impl_ParseScore.mono;have m4_ := @impl_RangeOf.mono;have m5_ := @impl_ScoreText.mono;have m6_ := @impl_SortNotes.mono;have m7_ := @impl_SoundingAt.mono;have m8_ := @impl_TransposeScore.mono;have m9_ := @laws_pIn.mono;have m10_ := @laws_pSameNotes.mono;have m11_ := @spec_DrawMoveScore.mono;have m12_ := @spec_DrawScoreText.mono;have m13_ := @spec_DrawTransposeScore.mono;have m14_ := @spec_EndOfScore.mono;have m15_ := @spec_MoveScore.mono;have m16_ := @spec_RangeOf.mono;have m17_ := @spec_ScoreText.mono;have m18_ := @spec_TransposeScore.mono;exact mo_
  ·intro y0 y1 y2 y3 y4 y5 y6 y7
   unfold laws_FnScores.l0
   have m0_ := @impl_EndOfScore.mono;have m1_ := @impl_IsScore.mono;have m2_ := @impl_MoveScore.mono;have m3_ := @impl_ParseScore.mono;have m4_ := @impl_RangeOf.mono;have m5_ := @impl_ScoreText.mono;have m6_ := @impl_SortNotes.mono;have m7_ := @impl_SoundingAt.mono;have m8_ := @impl_TransposeScore.mono;have m9_ := @laws_pIn.mono;have m10_ := @laws_pSameNotes.mono;have m11_ := @spec_DrawMoveScore.mono;have m12_ := @spec_DrawScoreText.mono;have m13_ := @spec_DrawTransposeScore.mono;have m14_ := @spec_EndOfScore.mono;have m15_ := @spec_MoveScore.mono;have m16_ := @spec_RangeOf.mono;have m17_ := @spec_ScoreText.mono;have m18_ := @spec_TransposeScore.mono;exact mo_
  ·intro y0 y1 y2 y3 y4 y5 y6 y7 y8
   unfold laws_FnScores.j3
   have m0_ := @impl_EndOfScore.mono;have m1_ := @impl_IsScore.mono;have m2_ := @impl_MoveScore.mono;have m3_ := @impl_ParseScore.mono;have m4_ := @impl_RangeOf.mono;have m5_ := @impl_ScoreText.mono;have m6_ := @impl_SortNotes.mono;have m7_ := @impl_SoundingAt.mono;have m8_ := @impl_TransposeScore.mono;have m9_ := @laws_pIn.mono;have m10_ := @laws_pSameNotes.mono;have m11_ := @spec_DrawMoveScore.mono;have m12_ := @spec_DrawScoreText.mono;have m13_ := @spec_DrawTransposeScore.mono;have m14_ := @spec_EndOfScore.mono;have m15_ := @spec_MoveScore.mono;have m16_ := @spec_RangeOf.mono;have m17_ := @spec_ScoreText.mono;have m18_ := @spec_TransposeScore.mono;exact mo_
theorem laws_FnScores.mono : ∀ a0 a1 k, LeO (laws_FnScores.f k a0 a1) (laws_FnScores.f (k + 1) a0 a1) := by
 intro a0 a1 k;obtain ⟨ih0, ih1, ih2, ih3, ih4, ih5, ih6, ih7, ih8⟩ := laws_FnScores.mono_l k
 unfold laws_FnScores.f
 have m0_ := @impl_EndOfScore.mono;have m1_ := @impl_IsScore.mono;have m2_ := @impl_MoveScore.mono;have m3_ := @impl_ParseScore.mono;have m4_ := @impl_RangeOf.mono;have m5_ := @impl_ScoreText.mono;have m6_ := @impl_SortNotes.mono;have m7_ := @impl_SoundingAt.mono;have m8_ := @impl_TransposeScore.mono;have m9_ := @laws_pIn.mono;have m10_ := @laws_pSameNotes.mono;have m11_ := @spec_DrawMoveScore.mono;have m12_ := @spec_DrawScoreText.mono;have m13_ := @spec_DrawTransposeScore.mono;have m14_ := @spec_EndOfScore.mono;have m15_ := @spec_MoveScore.mono;have m16_ := @spec_RangeOf.mono;have m17_ := @spec_ScoreText.mono;have m18_ := @spec_TransposeScore.mono;exact mo_
theorem df_ {r : Bool} (h : r = true) (H : some false = some r) : False := by subst h; cases H
theorem laws_FnScores_j0_df {r : Bool} {k : Nat} {x0 : List Int} {x1 : List (S31)} {x2 : ByteArray} {x3 : Bool} {x4 : Int} {x5 : Int} {x6 : Int} (h : r = true) (H : laws_FnScores.j0 k x0 x1 x2 x3 x4 x5 x6 true = some r) : False := by
 subst h
 cases k <;> simp [laws_FnScores.j0] at H
theorem laws_FnScores_j5_df {r : Bool} {k : Nat} {x0 : List (S31)} {x1 : Int} {x2 : List (S31)} {x3 : Bool} {x4 : List (S31)} {x5 : Int} {x6 : List (S31)} {x7 : Bool} (h : r = true) (H : laws_FnScores.j5 k x0 x1 x2 x3 x4 x5 x6 x7 true = some r) : False := by
 subst h
 cases k <;> simp [laws_FnScores.j5] at H
theorem laws_FnScores_j8_df {r : Bool} {k : Nat} (h : r = true) (H : laws_FnScores.j8 k true = some r) : False := by
 subst h
 cases k <;> simp [laws_FnScores.j8] at H
theorem laws_FnScores_j6_df {r : Bool} {k : Nat} {x0 : List (S31)} {x1 : Int} {x2 : List (S31)} {x3 : Bool} (h : r = true) (H : laws_FnScores.j6 k x0 x1 x2 x3 true = some r) : False := by
 subst h
 cases k <;> simp [laws_FnScores.j6] at H
theorem laws_FnScores_j1_df {r : Bool} {k : Nat} {x0 : List Int} {x1 : List (S31)} {x2 : Int} {x3 : Int} {x4 : Int} (h : r = true) (H : laws_FnScores.j1 k x0 x1 x2 x3 x4 true = some r) : False := by
 subst h
 cases k <;> simp [laws_FnScores.j1] at H
theorem laws_FnScores_j3_df {r : Bool} {k : Nat} {x0 : List Int} {x1 : List (S31)} {x2 : Int} {x3 : Int} {x4 : Int} {x5 : List (S31)} {x6 : Int} {x7 : Int} (h : r = true) (H : laws_FnScores.j3 k x0 x1 x2 x3 x4 x5 x6 x7 true = some r) : False := by
 subst h
 cases k <;> simp [laws_FnScores.j3] at H
/-- THE ONE PURE STATEMENT of laws_FnScores: yours. -/
def laws_FnScores.Pure : Prop := ∀ (l0 : List Int) (l1 : List Int), l0.length ≤ maxLen → l0.length * 1 ≤ 140737488351232 → (∀ x ∈ l0, (Lit.int .u8 x).wf = true) → l1.length ≤ maxLen → l1.length * 1 ≤ 140737488351232 → (∀ x ∈ l1, (Lit.int .u8 x).wf = true) → ∃ k, laws_FnScores.f k l0 l1 = some true

end Go.Proofs.YtfpfjnmjekjnhaaGreatDoor.PFnScores
