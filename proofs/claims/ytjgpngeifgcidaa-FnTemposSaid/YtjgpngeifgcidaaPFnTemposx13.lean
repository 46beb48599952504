-- by wip/xprint.py, over the kit's printer
import Derived.Test.YtjgpngeifgcidaaPFnTemposx0
import Derived.Test.YtjgpngeifgcidaaPFnTemposx4
import Derived.Test.YtjgpngeifgcidaaPFnTemposx5
import Derived.Test.YtjgpngeifgcidaaPFnTemposx7
import Derived.Test.YtjgpngeifgcidaaPFnTemposx9
import Derived.Test.YtjgpngeifgcidaaPFnTemposx10
import Derived.Test.YtjgpngeifgcidaaPFnTemposx11
import Derived.Test.YtjgpngeifgcidaaPFnTemposx12
namespace Go.Proofs.Ytjgpngeifgcidaa.PFnTempos
open Go.RowKit Go.Proofs.YtjgpngeifgcidaaW.PrintWords Go.Proofs.YtjgpngeifgcidaaW.PrintLast Go.Proofs.YtjgpngeifgcidaaW.PrintMore
attribute [local go_sem] max2_int min2_int max_two min_two max_three min_three max_four min_four   -- for this text's walks alone
set_option linter.unusedVariables false
set_option linter.unusedSimpArgs false
private abbrev M_ {p : Prop} (h : p) : Aside0 p := Aside0.mk h
private abbrev la_ := @List.setIfInBounds_toArray
private abbrev lb_ := @List.set_cons_zero
private abbrev lc_ := @List.set_cons_succ
private abbrev bn_ := @pw_below_drewN
private abbrev b1_ := @below_drew1
private abbrev ba_ := @below_alloc
private abbrev bs_ := @below_set
private abbrev kn_ := @blk_drewN
private abbrev ka_ := @blk_alloc
private abbrev kd_ := @blk_drew
private abbrev rn_ := @Kd.R_drewN
private abbrev ra_ := @Kd.R_alloc
private abbrev rd_ := @Kd.R_drew
private abbrev rb_ := @Kd.R_below
private abbrev rm_ := @Kd.R_mono
private abbrev rt_ := @Kd.R_types

mutual
def laws_FnTempos.j0 : Nat → List (S48) → Int → Bool → Int → List (S48) → Int → Bool → Int → List (S48) → Int → Int → Bool → Int → List (S48) → Bool → Bool → Int → Int → Option (Bool)
 | 0, _, _, _, _, _, _, _, _, _, _, _, _, _, _, _, _, _, _ => none
 | k + 1, x5, x6, x8, x9, x11, x12, x14, x15, x17, x18, x19, x21, x22, x26, x27, x165, x440000, x440001 => if x165 = true then (some false) else (if x14 = true then ((impl_TimeOf.f k x11 x15).bind fun bt449 => ((spec_TimeOf.f k x11 x15).bind fun bt451 => (if bt449.2 = true then (if bt451.2 = true then (if bt449.1 = bt451.1 then (laws_FnTempos.j1 k x5 x6 x8 x9 x11 x12 x15 x17 x18 x19 x21 x22 x26 x27 (decide (bt451.1 > x12)) x440000 x440001) else (laws_FnTempos.j1 k x5 x6 x8 x9 x11 x12 x15 x17 x18 x19 x21 x22 x26 x27 true x440000 x440001)) else (laws_FnTempos.j1 k x5 x6 x8 x9 x11 x12 x15 x17 x18 x19 x21 x22 x26 x27 true x440000 x440001)) else (laws_FnTempos.j1 k x5 x6 x8 x9 x11 x12 x15 x17 x18 x19 x21 x22 x26 x27 true x440000 x440001)))) else (laws_FnTempos.j2 k x5 x6 x8 x9 x17 x18 x19 x21 x22 x26 x27 x440000 x440001))
def laws_FnTempos.j2 : Nat → List (S48) → Int → Bool → Int → List (S48) → Int → Int → Bool → Int → List (S48) → Bool → Int → Int → Option (Bool)
 | 0, _, _, _, _, _, _, _, _, _, _, _, _, _ => none
 | k + 1, x5, x6, x8, x9, x17, x18, x19, x21, x22, x26, x27, x440000, x440001 => if x21 = true then ((impl_TimeOf.f k x17 x18).bind fun bt455 => ((impl_TimeOf.f k x17 x19).bind fun bt457 => (if bt455.2 = true then (if bt457.2 = true then (if (wrap64 (bt457.1 - bt455.1)) = x22 then (laws_FnTempos.j3 k x5 x6 x8 x9 x26 x27 x440000 x440001) else (some false)) else (some false)) else (some false)))) else (laws_FnTempos.j3 k x5 x6 x8 x9 x26 x27 x440000 x440001)
def laws_FnTempos.j3 : Nat → List (S48) → Int → Bool → Int → List (S48) → Bool → Int → Int → Option (Bool)
 | 0, _, _, _, _, _, _, _, _ => none
 | k + 1, x5, x6, x8, x9, x26, x27, x440000, x440001 => if x27 = true then ((impl_TempoAt.f k x26 x440000).bind fun bt459 => (if bt459.2 = true then (if bt459.1 = x440001 then ((impl_AreTempos.f k x26).bind fun t461 => (if t461 = true then (laws_FnTempos.j4 k x5 x6 x8 x9) else (some false))) else (some false)) else (some false))) else (laws_FnTempos.j4 k x5 x6 x8 x9)
def laws_FnTempos.j4 : Nat → List (S48) → Int → Bool → Int → Option (Bool)
 | 0, _, _, _, _ => none
 | k + 1, x5, x6, x8, x9 => if x8 = true then (laws_FnTempos.j5 k x5 x6 x9 (x6 == 2000)) else (laws_FnTempos.j5 k x5 x6 x9 true)
def laws_FnTempos.j5 : Nat → List (S48) → Int → Int → Bool → Option (Bool)
 | 0, _, _, _, _ => none
 | k + 1, x5, x6, x9, x263 => if x263 = true then (some true) else ((impl_TempoAt.f k x5 x6).bind fun bt462 => ((spec_TempoAt.f k x5 x6).bind fun bt464 => ((impl_TimeOf.f k x5 (wrap64 (x6 + 1))).bind fun bt466 => ((impl_StepAtTime.f k x5 x9).bind fun bt468 => (if bt462.2 = true then (if bt464.2 = true then (if bt462.1 = bt464.1 then (if bt466.2 = true then (if bt466.1 = (wrap64 (x9 + bt464.1)) then (if bt468.2 = true then (some (bt468.1 == x6)) else (some false)) else (some false)) else (some false)) else (some false)) else (some false)) else (some false))))))
def laws_FnTempos.j1 : Nat → List (S48) → Int → Bool → Int → List (S48) → Int → Int → List (S48) → Int → Int → Bool → Int → List (S48) → Bool → Bool → Int → Int → Option (Bool)
 | 0, _, _, _, _, _, _, _, _, _, _, _, _, _, _, _, _, _ => none
 | k + 1, x5, x6, x8, x9, x11, x12, x15, x17, x18, x19, x21, x22, x26, x27, x194, x440000, x440001 => if x194 = true then (some false) else (if x15 < 2000 then ((impl_TimeOf.f k x11 (wrap64 (x15 + 1))).bind fun bt453 => (if bt453.2 = true then (if bt453.1 ≤ x12 then (some false) else (laws_FnTempos.j2 k x5 x6 x8 x9 x17 x18 x19 x21 x22 x26 x27 x440000 x440001)) else (some false))) else (laws_FnTempos.j2 k x5 x6 x8 x9 x17 x18 x19 x21 x22 x26 x27 x440000 x440001))
end
def laws_FnTempos.f (k : Nat) (l0 : List Int) (l1 : List Int) : Option (Bool) := if (wrap64 ((l0.length : Int) + (l1.length : Int))) > 1048576 then (some true) else ((spec_DrawTimeOf.f k l0).bind fun bt409 => ((impl_TimeOf.f k bt409.1 bt409.2).bind fun bt413 => ((spec_TimeOf.f k bt409.1 bt409.2).bind fun bt415 => ((spec_DrawStepAtTime.f k l1).bind fun bt417 => ((impl_StepAtTime.f k bt417.1 bt417.2).bind fun bt421 => ((spec_StepAtTime.f k bt417.1 bt417.2).bind fun bt423 => ((spec_DrawTimeBetween.f k l1).bind fun bt425 => ((impl_TimeBetween.f k bt425.1 bt425.2.1 bt425.2.2).bind fun bt430 => ((spec_TimeBetween.f k bt425.1 bt425.2.1 bt425.2.2).bind fun bt432 => ((spec_DrawAddTempo.f k l1).bind fun bt434 => ((impl_AddTempo.f k bt434.1 bt434.2.1 bt434.2.2).bind fun bt440 => ((spec_AddTempo.f k bt434.1 bt434.2.1 bt434.2.2).bind fun bt444 => (if (bt413.2 != bt415.2) = true then (laws_FnTempos.j0 k bt409.1 bt409.2 bt413.2 bt415.1 bt417.1 bt417.2 bt421.2 bt423.1 bt425.1 bt425.2.1 bt425.2.2 bt430.2 bt432.1 bt440.1 bt440.2 true bt434.2.1 bt434.2.2) else (if bt413.1 = bt415.1 then (if (bt421.2 != bt423.2) = true then (laws_FnTempos.j0 k bt409.1 bt409.2 bt413.2 bt415.1 bt417.1 bt417.2 bt421.2 bt423.1 bt425.1 bt425.2.1 bt425.2.2 bt430.2 bt432.1 bt440.1 bt440.2 true bt434.2.1 bt434.2.2) else (if bt421.1 = bt423.1 then (if (bt430.2 != bt432.2) = true then (laws_FnTempos.j0 k bt409.1 bt409.2 bt413.2 bt415.1 bt417.1 bt417.2 bt421.2 bt423.1 bt425.1 bt425.2.1 bt425.2.2 bt430.2 bt432.1 bt440.1 bt440.2 true bt434.2.1 bt434.2.2) else (if bt430.1 = bt432.1 then (if (bt440.2 != bt444.2) = true then (laws_FnTempos.j0 k bt409.1 bt409.2 bt413.2 bt415.1 bt417.1 bt417.2 bt421.2 bt423.1 bt425.1 bt425.2.1 bt425.2.2 bt430.2 bt432.1 bt440.1 bt440.2 true bt434.2.1 bt434.2.2) else ((laws_qTempos.f k bt440.1 bt444.1).bind fun t448 => (laws_FnTempos.j0 k bt409.1 bt409.2 bt413.2 bt415.1 bt417.1 bt417.2 bt421.2 bt423.1 bt425.1 bt425.2.1 bt425.2.2 bt430.2 bt432.1 bt440.1 bt440.2 (!t448) bt434.2.1 bt434.2.2))) else (laws_FnTempos.j0 k bt409.1 bt409.2 bt413.2 bt415.1 bt417.1 bt417.2 bt421.2 bt423.1 bt425.1 bt425.2.1 bt425.2.2 bt430.2 bt432.1 bt440.1 bt440.2 true bt434.2.1 bt434.2.2))) else (laws_FnTempos.j0 k bt409.1 bt409.2 bt413.2 bt415.1 bt417.1 bt417.2 bt421.2 bt423.1 bt425.1 bt425.2.1 bt425.2.2 bt430.2 bt432.1 bt440.1 bt440.2 true bt434.2.1 bt434.2.2))) else (laws_FnTempos.j0 k bt409.1 bt409.2 bt413.2 bt415.1 bt417.1 bt417.2 bt421.2 bt423.1 bt425.1 bt425.2.1 bt425.2.2 bt430.2 bt432.1 bt440.1 bt440.2 true bt434.2.1 bt434.2.2)))))))))))))))
theorem laws_FnTempos.mono_l : ∀ k, (∀ y0 y1 y2 y3 y4 y5 y6 y7 y8 y9 y10 y11 y12 y13 y14 y15 y16 y17, LeO (laws_FnTempos.j0 k y0 y1 y2 y3 y4 y5 y6 y7 y8 y9 y10 y11 y12 y13 y14 y15 y16 y17) (laws_FnTempos.j0 (k + 1) y0 y1 y2 y3 y4 y5 y6 y7 y8 y9 y10 y11 y12 y13 y14 y15 y16 y17)) ∧ (∀ y0 y1 y2 y3 y4 y5 y6 y7 y8 y9 y10 y11 y12, LeO (laws_FnTempos.j2 k y0 y1 y2 y3 y4 y5 y6 y7 y8 y9 y10 y11 y12) (laws_FnTempos.j2 (k + 1) y0 y1 y2 y3 y4 y5 y6 y7 y8 y9 y10 y11 y12)) ∧ (∀ y0 y1 y2 y3 y4 y5 y6 y7, LeO (laws_FnTempos.j3 k y0 y1 y2 y3 y4 y5 y6 y7) (laws_FnTempos.j3 (k + 1) y0 y1 y2 y3 y4 y5 y6 y7)) ∧ (∀ y0 y1 y2 y3, LeO (laws_FnTempos.j4 k y0 y1 y2 y3) (laws_FnTempos.j4 (k + 1) y0 y1 y2 y3)) ∧ (∀ y0 y1 y2 y3, LeO (laws_FnTempos.j5 k y0 y1 y2 y3) (laws_FnTempos.j5 (k + 1) y0 y1 y2 y3)) ∧ (∀ y0 y1 y2 y3 y4 y5 y6 y7 y8 y9 y10 y11 y12 y13 y14 y15 y16, LeO (laws_FnTempos.j1 k y0 y1 y2 y3 y4 y5 y6 y7 y8 y9 y10 y11 y12 y13 y14 y15 y16) (laws_FnTempos.j1 (k + 1) y0 y1 y2 y3 y4 y5 y6 y7 y8 y9 y10 y11 y12 y13 y14 y15 y16))
 | 0 => ⟨fun _ _ _ _ _ _ _ _ _ _ _ _ _ _ _ _ _ _ r h => by simp [laws_FnTempos.j0] at h, fun _ _ _ _ _ _ _ _ _ _ _ _ _ r h => by simp [laws_FnTempos.j2] at h, fun _ _ _ _ _ _ _ _ r h => by simp [laws_FnTempos.j3] at h, fun _ _ _ _ r h => by simp [laws_FnTempos.j4] at h, fun _ _ _ _ r h => by simp [laws_FnTempos.j5] at h, fun _ _ _ _ _ _ _ _ _ _ _ _ _ _ _ _ _ r h => by simp [laws_FnTempos.j1] at h⟩
 | k + 1 => by
  obtain ⟨ih0, ih1, ih2, ih3, ih4, ih5⟩ := laws_FnTempos.mono_l k
  refine ⟨?_, ?_, ?_, ?_, ?_, ?_⟩
  ·intro y0 y1 y2 y3 y4 y5 y6 y7 y8 y9 y10 y11 y12 y13 y14 y15 y16 y17
   unfold laws_FnTempos.j0
   repeat' first
   | (with_reducible exact ih0 _ _ _ _ _ _ _ _ _ _ _ _ _ _ _ _ _ _)
   | (with_reducible exact ih1 _ _ _ _ _ _ _ _ _ _ _ _ _)
   | (with_reducible exact ih2 _ _ _ _ _ _ _ _)
   | (with_reducible exact ih3 _ _ _ _)
   | (with_reducible exact ih4 _ _ _ _)
   | (with_reducible exact ih5 _ _ _ _ _ _ _ _ _ _ _ _ _ _ _ _ _)
   | (with_reducible exact impl_AddTempo.mono _ _ _ _)
   | (with_reducible exact impl_AreTempos.mono _ _)
   | (with_reducible exact impl_StepAtTime.mono _ _ _)
   | (with_reducible exact impl_TempoAt.mono _ _ _)
   | (with_reducible exact impl_TimeBetween.mono _ _ _ _)
   | (with_reducible exact impl_TimeOf.mono _ _ _)
   | (with_reducible exact laws_qTempos.mono _ _ _)
   | (with_reducible exact spec_AddTempo.mono _ _ _ _)
   | (with_reducible exact spec_DrawAddTempo.mono _ _)
   | (with_reducible exact spec_DrawStepAtTime.mono _ _)
   | (with_reducible exact spec_DrawTimeBetween.mono _ _)
   | (with_reducible exact spec_DrawTimeOf.mono _ _)
   | (with_reducible exact spec_StepAtTime.mono _ _ _)
   | (with_reducible exact spec_TempoAt.mono _ _ _)
   | (with_reducible exact spec_TimeBetween.mono _ _ _ _)
   | (with_reducible exact spec_TimeOf.mono _ _ _)
   | (with_reducible exact LeO.refl _)
   | (with_reducible exact LeO.none _)
   | (with_reducible refine LeO.ite ?_ ?_)
   | (with_reducible refine LeO.bind ?_ (fun _ => ?_))
   | exact ih0 _ _ _ _ _ _ _ _ _ _ _ _ _ _ _ _ _ _
   | exact ih1 _ _ _ _ _ _ _ _ _ _ _ _ _
   | exact ih2 _ _ _ _ _ _ _ _
   | exact ih3 _ _ _ _
   | exact ih4 _ _ _ _
   | exact ih5 _ _ _ _ _ _ _ _ _ _ _ _ _ _ _ _ _
   | exact impl_AddTempo.mono _ _ _ _
   | exact impl_AreTempos.mono _ _
   | exact impl_StepAtTime.mono _ _ _
   | exact impl_TempoAt.mono _ _ _
   | exact impl_TimeBetween.mono _ _ _ _
   | exact impl_TimeOf.mono _ _ _
   | exact laws_qTempos.mono _ _ _
   | exact spec_AddTempo.mono _ _ _ _
   | exact spec_DrawAddTempo.mono _ _
   | exact spec_DrawStepAtTime.mono _ _
   | exact spec_DrawTimeBetween.mono _ _
   | exact spec_DrawTimeOf.mono _ _
   | exact spec_StepAtTime.mono _ _ _
   | exact spec_TempoAt.mono _ _ _
   | exact spec_TimeBetween.mono _ _ _ _
   | exact spec_TimeOf.mono _ _ _
   | exact LeO.none _
   | refine LeO.ite ?_ ?_
   | refine LeO.bind ?_ (fun _ => ?_)
  ·intro y0 y1 y2 y3 y4 y5 y6 y7 y8 y9 y10 y11 y12
   unfold laws_FnTempos.j2
   repeat' first
   | (with_reducible exact ih0 _ _ _ _ _ _ _ _ _ _ _ _ _ _ _ _ _ _)
   | (with_reducible exact ih1 _ _ _ _ _ _ _ _ _ _ _ _ _)
   | (with_reducible exact ih2 _ _ _ _ _ _ _ _)
   | (with_reducible exact ih3 _ _ _ _)
   | (with_reducible exact ih4 _ _ _ _)
   | (with_reducible exact ih5 _ _ _ _ _ _ _ _ _ _ _ _ _ _ _ _ _)
   | (with_reducible exact impl_AddTempo.mono _ _ _ _)
   | (with_reducible exact impl_AreTempos.mono _ _)
   | (with_reducible exact impl_StepAtTime.mono _ _ _)
   | (with_reducible exact impl_TempoAt.mono _ _ _)
   | (with_reducible exact impl_TimeBetween.mono _ _ _ _)
   | (with_reducible exact impl_TimeOf.mono _ _ _)
   | (with_reducible exact laws_qTempos.mono _ _ _)
   | (with_reducible exact spec_AddTempo.mono _ _ _ _)
   | (with_reducible exact spec_DrawAddTempo.mono _ _)
   | (with_reducible exact spec_DrawStepAtTime.mono _ _)
   | (with_reducible exact spec_DrawTimeBetween.mono _ _)
   | (with_reducible exact spec_DrawTimeOf.mono _ _)
   | (with_reducible exact spec_StepAtTime.mono _ _ _)
   | (with_reducible exact spec_TempoAt.mono _ _ _)
   | (with_reducible exact spec_TimeBetween.mono _ _ _ _)
   | (with_reducible exact spec_TimeOf.mono _ _ _)
   | (with_reducible exact LeO.refl _)
   | (with_reducible exact LeO.none _)
   | (with_reducible refine LeO.ite ?_ ?_)
   | (with_reducible refine LeO.bind ?_ (fun _ => ?_))
   | exact ih0 _ _ _ _ _ _ _ _ _ _ _ _ _ _ _ _ _ _
   | exact ih1 _ _ _ _ _ _ _ _ _ _ _ _ _
   | exact ih2 _ _ _ _ _ _ _ _
   | exact ih3 _ _ _ _
   | exact ih4 _ _ _ _
   | exact ih5 _ _ _ _ _ _ _ _ _ _ _ _ _ _ _ _ _
   | exact impl_AddTempo.mono _ _ _ _
   | exact impl_AreTempos.mono _ _
   | exact impl_StepAtTime.mono _ _ _
   | exact impl_TempoAt.mono _ _ _
   | exact impl_TimeBetween.mono _ _ _ _
   | exact impl_TimeOf.mono _ _ _
   | exact laws_qTempos.mono _ _ _
   | exact spec_AddTempo.mono _ _ _ _
   | exact spec_DrawAddTempo.mono _ _
   | exact spec_DrawStepAtTime.mono _ _
   | exact spec_DrawTimeBetween.mono _ _
   | exact spec_DrawTimeOf.mono _ _
   | exact spec_StepAtTime.mono _ _ _
   | exact spec_TempoAt.mono _ _ _
   | exact spec_TimeBetween.mono _ _ _ _
   | exact spec_TimeOf.mono _ _ _
   | exact LeO.none _
   | refine LeO.ite ?_ ?_
   | refine LeO.bind ?_ (fun _ => ?_)
  ·intro y0 y1 y2 y3 y4 y5 y6 y7
   unfold laws_FnTempos.j3
   repeat' first
   | (with_reducible exact ih0 _ _ _ _ _ _ _ _ _ _ _ _ _ _ _ _ _ _)
   | (with_reducible exact ih1 _ _ _ _ _ _ _ _ _ _ _ _ _)
   | (with_reducible exact ih2 _ _ _ _ _ _ _ _)
   | (with_reducible exact ih3 _ _ _ _)
   | (with_reducible exact ih4 _ _ _ _)
   | (with_reducible exact ih5 _ _ _ _ _ _ _ _ _ _ _ _ _ _ _ _ _)
   | (with_reducible exact impl_AddTempo.mono _ _ _ _)
   | (with_reducible exact impl_AreTempos.mono _ _)
   | (with_reducible exact impl_StepAtTime.mono _ _ _)
   | (with_reducible exact impl_TempoAt.mono _ _ _)
   | (with_reducible exact impl_TimeBetween.mono _ _ _ _)
   | (with_reducible exact impl_TimeOf.mono _ _ _)
   | (with_reducible exact laws_qTempos.mono _ _ _)
   | (with_reducible exact spec_AddTempo.mono _ _ _ _)
   | (with_reducible exact spec_DrawAddTempo.mono _ _)
   | (with_reducible exact spec_DrawStepAtTime.mono _ _)
   | (with_reducible exact spec_DrawTimeBetween.mono _ _)
   | (with_reducible exact spec_DrawTimeOf.mono _ _)
   | (with_reducible exact spec_StepAtTime.mono _ _ _)
   | (with_reducible exact spec_TempoAt.mono _ _ _)
   | (with_reducible exact spec_TimeBetween.mono _ _ _ _)
   | (with_reducible exact spec_TimeOf.mono _ _ _)
   | (with_reducible exact LeO.refl _)
   | (with_reducible exact LeO.none _)
   | (with_reducible refine LeO.ite ?_ ?_)
   | (with_reducible refine LeO.bind ?_ (fun _ => ?_))
   | exact ih0 _ _ _ _ _ _ _ _ _ _ _ _ _ _ _ _ _ _
   | exact ih1 _ _ _ _ _ _ _ _ _ _ _ _ _
   | exact ih2 _ _ _ _ _ _ _ _
   | exact ih3 _ _ _ _
   | exact ih4 _ _ _ _
   | exact ih5 _ _ _ _ _ _ _ _ _ _ _ _ _ _ _ _ _
   | exact impl_AddTempo.mono _ _ _ _
   | exact impl_AreTempos.mono _ _
   | exact impl_StepAtTime.mono _ _ _
   | exact impl_TempoAt.mono _ _ _
   | exact impl_TimeBetween.mono _ _ _ _
   | exact impl_TimeOf.mono _ _ _
   | exact laws_qTempos.mono _ _ _
   | exact spec_AddTempo.mono _ _ _ _
   | exact spec_DrawAddTempo.mono _ _
   | exact spec_DrawStepAtTime.mono _ _
   | exact spec_DrawTimeBetween.mono _ _
   | exact spec_DrawTimeOf.mono _ _
   | exact spec_StepAtTime.mono _ _ _
   | exact spec_TempoAt.mono _ _ _
   | exact spec_TimeBetween.mono _ _ _ _
   | exact spec_TimeOf.mono _ _ _
   | exact LeO.none _
   | refine LeO.ite ?_ ?_
   | refine LeO.bind ?_ (fun _ => ?_)
  ·intro y0 y1 y2 y3
   unfold laws_FnTempos.j4
   repeat' first
   | (with_reducible exact ih0 _ _ _ _ _ _ _ _ _ _ _ _ _ _ _ _ _ _)
   | (with_reducible exact ih1 _ _ _ _ _ _ _ _ _ _ _ _ _)
   | (with_reducible exact ih2 _ _ _ _ _ _ _ _)
   | (with_reducible exact ih3 _ _ _ _)
   | (with_reducible exact ih4 _ _ _ _)
   | (with_reducible exact ih5 _ _ _ _ _ _ _ _ _ _ _ _ _ _ _ _ _)
   | (with_reducible exact impl_AddTempo.mono _ _ _ _)
   | (with_reducible exact impl_AreTempos.mono _ _)
   | (with_reducible exact impl_StepAtTime.mono _ _ _)
   | (with_reducible exact impl_TempoAt.mono _ _ _)
   | (with_reducible exact impl_TimeBetween.mono _ _ _ _)
   | (with_reducible exact impl_TimeOf.mono _ _ _)
   | (with_reducible exact laws_qTempos.mono _ _ _)
   | (with_reducible exact spec_AddTempo.mono _ _ _ _)
   | (with_reducible exact spec_DrawAddTempo.mono _ _)
   | (with_reducible exact spec_DrawStepAtTime.mono _ _)
   | (with_reducible exact spec_DrawTimeBetween.mono _ _)
   | (with_reducible exact spec_DrawTimeOf.mono _ _)
   | (with_reducible exact spec_StepAtTime.mono _ _ _)
   | (with_reducible exact spec_TempoAt.mono _ _ _)
   | (with_reducible exact spec_TimeBetween.mono _ _ _ _)
   | (with_reducible exact spec_TimeOf.mono _ _ _)
   | (with_reducible exact LeO.refl _)
   | (with_reducible exact LeO.none _)
   | (with_reducible refine LeO.ite ?_ ?_)
   | (with_reducible refine LeO.bind ?_ (fun _ => ?_))
   | exact ih0 _ _ _ _ _ _ _ _ _ _ _ _ _ _ _ _ _ _
   | exact ih1 _ _ _ _ _ _ _ _ _ _ _ _ _
   | exact ih2 _ _ _ _ _ _ _ _
   | exact ih3 _ _ _ _
   | exact ih4 _ _ _ _
   | exact ih5 _ _ _ _ _ _ _ _ _ _ _ _ _ _ _ _ _
   | exact impl_AddTempo.mono _ _ _ _
   | exact impl_AreTempos.mono _ _
   | exact impl_StepAtTime.mono _ _ _
   | exact impl_TempoAt.mono _ _ _
   | exact impl_TimeBetween.mono _ _ _ _
   | exact impl_TimeOf.mono _ _ _
   | exact laws_qTempos.mono _ _ _
   | exact spec_AddTempo.mono _ _ _ _
   | exact spec_DrawAddTempo.mono _ _
   | exact spec_DrawStepAtTime.mono _ _
   | exact spec_DrawTimeBetween.mono _ _
   | exact spec_DrawTimeOf.mono _ _
   | exact spec_StepAtTime.mono _ _ _
   | exact spec_TempoAt.mono _ _ _
   | exact spec_TimeBetween.mono _ _ _ _
   | exact spec_TimeOf.mono _ _ _
   | exact LeO.none _
   | refine LeO.ite ?_ ?_
   | refine LeO.bind ?_ (fun _ => ?_)
  ·intro y0 y1 y2 y3
   unfold laws_FnTempos.j5
   repeat' first
   | (with_reducible exact ih0 _ _ _ _ _ _ _ _ _ _ _ _ _ _ _ _ _ _)
   | (with_reducible exact ih1 _ _ _ _ _ _ _ _ _ _ _ _ _)
   | (with_reducible exact ih2 _ _ _ _ _ _ _ _)
   | (with_reducible exact ih3 _ _ _ _)
   | (with_reducible exact ih4 _ _ _ _)
   | (with_reducible exact ih5 _ _ _ _ _ _ _ _ _ _ _ _ _ _ _ _ _)
   | (with_reducible exact impl_AddTempo.mono _ _ _ _)
   | (with_reducible exact impl_AreTempos.mono _ _)
   | (with_reducible exact impl_StepAtTime.mono _ _ _)
   | (with_reducible exact impl_TempoAt.mono _ _ _)
   | (with_reducible exact impl_TimeBetween.mono _ _ _ _)
   | (with_reducible exact impl_TimeOf.mono _ _ _)
   | (with_reducible exact laws_qTempos.mono _ _ _)
   | (with_reducible exact spec_AddTempo.mono _ _ _ _)
   | (with_reducible exact spec_DrawAddTempo.mono _ _)
   | (with_reducible exact spec_DrawStepAtTime.mono _ _)
   | (with_reducible exact spec_DrawTimeBetween.mono _ _)
   | (with_reducible exact spec_DrawTimeOf.mono _ _)
   | (with_reducible exact spec_StepAtTime.mono _ _ _)
   | (with_reducible exact spec_TempoAt.mono _ _ _)
   | (with_reducible exact spec_TimeBetween.mono _ _ _ _)
   | (with_reducible exact spec_TimeOf.mono _ _ _)
   | (with_reducible exact LeO.refl _)
   | (with_reducible exact LeO.none _)
   | (with_reducible refine LeO.ite ?_ ?_)
   | (with_reducible refine LeO.bind ?_ (fun _ => ?_))
   | exact ih0 _ _ _ _ _ _ _ _ _ _ _ _ _ _ _ _ _ _
   | exact ih1 _ _ _ _ _ _ _ _ _ _ _ _ _
   | exact ih2 _ _ _ _ _ _ _ _
   | exact ih3 _ _ _ _
   | exact ih4 _ _ _ _
   | exact ih5 _ _ _ _ _ _ _ _ _ _ _ _ _ _ _ _ _
   | exact impl_AddTempo.mono _ _ _ _
   | exact impl_AreTempos.mono _ _
   | exact impl_StepAtTime.mono _ _ _
   | exact impl_TempoAt.mono _ _ _
   | exact impl_TimeBetween.mono _ _ _ _
   | exact impl_TimeOf.mono _ _ _
   | exact laws_qTempos.mono _ _ _
   | exact spec_AddTempo.mono _ _ _ _
   | exact spec_DrawAddTempo.mono _ _
   | exact spec_DrawStepAtTime.mono _ _
   | exact spec_DrawTimeBetween.mono _ _
   | exact spec_DrawTimeOf.mono _ _
   | exact spec_StepAtTime.mono _ _ _
   | exact spec_TempoAt.mono _ _ _
   | exact spec_TimeBetween.mono _ _ _ _
   | exact spec_TimeOf.mono _ _ _
   | exact LeO.none _
   | refine LeO.ite ?_ ?_
   | refine LeO.bind ?_ (fun _ => ?_)
  ·intro y0 y1 y2 y3 y4 y5 y6 y7 y8 y9 y10 y11 y12 y13 y14 y15 y16
   unfold laws_FnTempos.j1
   repeat' first
   | (with_reducible exact ih0 _ _ _ _ _ _ _ _ _ _ _ _ _ _ _ _ _ _)
   | (with_reducible exact ih1 _ _ _ _ _ _ _ _ _ _ _ _ _)
   | (with_reducible exact ih2 _ _ _ _ _ _ _ _)
   | (with_reducible exact ih3 _ _ _ _)
   | (with_reducible exact ih4 _ _ _ _)
   | (with_reducible exact ih5 _ _ _ _ _ _ _ _ _ _ _ _ _ _ _ _ _)
   | (with_reducible exact impl_AddTempo.mono _ _ _ _)
   | (with_reducible exact impl_AreTempos.mono _ _)
   | (with_reducible exact impl_StepAtTime.mono _ _ _)
   | (with_reducible exact impl_TempoAt.mono _ _ _)
   | (with_reducible exact impl_TimeBetween.mono _ _ _ _)
   | (with_reducible exact impl_TimeOf.mono _ _ _)
   | (with_reducible exact laws_qTempos.mono _ _ _)
   | (with_reducible exact spec_AddTempo.mono _ _ _ _)
   | (with_reducible exact spec_DrawAddTempo.mono _ _)
   | (with_reducible exact spec_DrawStepAtTime.mono _ _)
   | (with_reducible exact spec_DrawTimeBetween.mono _ _)
   | (with_reducible exact spec_DrawTimeOf.mono _ _)
   | (with_reducible exact spec_StepAtTime.mono _ _ _)
   | (with_reducible exact spec_TempoAt.mono _ _ _)
   | (with_reducible exact spec_TimeBetween.mono _ _ _ _)
   | (with_reducible exact spec_TimeOf.mono _ _ _)
   | (with_reducible exact LeO.refl _)
   | (with_reducible exact LeO.none _)
   | (with_reducible refine LeO.ite ?_ ?_)
   | (with_reducible refine LeO.bind ?_ (fun _ => ?_))
   | exact ih0 _ _ _ _ _ _ _ _ _ _ _ _ _ _ _ _ _ _
   | exact ih1 _ _ _ _ _ _ _ _ _ _ _ _ _
   | exact ih2 _ _ _ _ _ _ _ _
   | exact ih3 _ _ _ _
   | exact ih4 _ _ _ _
   | exact ih5 _ _ _ _ _ _ _ _ _ _ _ _ _ _ _ _ _
   | exact impl_AddTempo.mono _ _ _ _
   | exact impl_AreTempos.mono _ _
   | exact impl_StepAtTime.mono _ _ _
   | exact impl_TempoAt.mono _ _ _
   | exact impl_TimeBetween.mono _ _ _ _
   | exact impl_TimeOf.mono _ _ _
   | exact laws_qTempos.mono _ _ _
   | exact spec_AddTempo.mono _ _ _ _
   | exact spec_DrawAddTempo.mono _ _
   | exact spec_DrawStepAtTime.mono _ _
   | exact spec_DrawTimeBetween.mono _ _
   | exact spec_DrawTimeOf.mono _ _
   | exact spec_StepAtTime.mono _ _ _
   | exact spec_TempoAt.mono _ _ _
   | exact spec_TimeBetween.mono _ _ _ _
   | exact spec_TimeOf.mono _ _ _
   | exact LeO.none _
   | refine LeO.ite ?_ ?_
   | refine LeO.bind ?_ (fun _ => ?_)
theorem laws_FnTempos.mono : ∀ a0 a1 k, LeO (laws_FnTempos.f k a0 a1) (laws_FnTempos.f (k + 1) a0 a1) := by
 intro a0 a1 k
 obtain ⟨ih0, ih1, ih2, ih3, ih4, ih5⟩ := laws_FnTempos.mono_l k
 unfold laws_FnTempos.f
 repeat' first
   | (with_reducible exact ih0 _ _ _ _ _ _ _ _ _ _ _ _ _ _ _ _ _ _)
   | (with_reducible exact ih1 _ _ _ _ _ _ _ _ _ _ _ _ _)
   | (with_reducible exact ih2 _ _ _ _ _ _ _ _)
   | (with_reducible exact ih3 _ _ _ _)
   | (with_reducible exact ih4 _ _ _ _)
   | (with_reducible exact ih5 _ _ _ _ _ _ _ _ _ _ _ _ _ _ _ _ _)
   | (with_reducible exact impl_AddTempo.mono _ _ _ _)
   | (with_reducible exact impl_AreTempos.mono _ _)
   | (with_reducible exact impl_StepAtTime.mono _ _ _)
   | (with_reducible exact impl_TempoAt.mono _ _ _)
   | (with_reducible exact impl_TimeBetween.mono _ _ _ _)
   | (with_reducible exact impl_TimeOf.mono _ _ _)
   | (with_reducible exact laws_qTempos.mono _ _ _)
   | (with_reducible exact spec_AddTempo.mono _ _ _ _)
   | (with_reducible exact spec_DrawAddTempo.mono _ _)
   | (with_reducible exact spec_DrawStepAtTime.mono _ _)
   | (with_reducible exact spec_DrawTimeBetween.mono _ _)
   | (with_reducible exact spec_DrawTimeOf.mono _ _)
   | (with_reducible exact spec_StepAtTime.mono _ _ _)
   | (with_reducible exact spec_TempoAt.mono _ _ _)
   | (with_reducible exact spec_TimeBetween.mono _ _ _ _)
   | (with_reducible exact spec_TimeOf.mono _ _ _)
   | (with_reducible exact LeO.refl _)
   | (with_reducible exact LeO.none _)
   | (with_reducible refine LeO.ite ?_ ?_)
   | (with_reducible refine LeO.bind ?_ (fun _ => ?_))
   | exact ih0 _ _ _ _ _ _ _ _ _ _ _ _ _ _ _ _ _ _
   | exact ih1 _ _ _ _ _ _ _ _ _ _ _ _ _
   | exact ih2 _ _ _ _ _ _ _ _
   | exact ih3 _ _ _ _
   | exact ih4 _ _ _ _
   | exact ih5 _ _ _ _ _ _ _ _ _ _ _ _ _ _ _ _ _
   | exact impl_AddTempo.mono _ _ _ _
   | exact impl_AreTempos.mono _ _
   | exact impl_StepAtTime.mono _ _ _
   | exact impl_TempoAt.mono _ _ _
   | exact impl_TimeBetween.mono _ _ _ _
   | exact impl_TimeOf.mono _ _ _
   | exact laws_qTempos.mono _ _ _
   | exact spec_AddTempo.mono _ _ _ _
   | exact spec_DrawAddTempo.mono _ _
   | exact spec_DrawStepAtTime.mono _ _
   | exact spec_DrawTimeBetween.mono _ _
   | exact spec_DrawTimeOf.mono _ _
   | exact spec_StepAtTime.mono _ _ _
   | exact spec_TempoAt.mono _ _ _
   | exact spec_TimeBetween.mono _ _ _ _
   | exact spec_TimeOf.mono _ _ _
   | exact LeO.none _
   | refine LeO.ite ?_ ?_
   | refine LeO.bind ?_ (fun _ => ?_)
set_option maxHeartbeats 8000000 in
set_option maxRecDepth 100000 in
theorem laws_FnTempos.calls (k : Nat) (A0 : Option Addr) (c0 : Nat) (l0 : List Int) (A1 : Option Addr) (c1 : Nat) (l1 : List Int) (r : Bool) (w : World) (hr0 : Kd.C (Kd.int .u8) w A0 l0.length l0) (hc0 : l0.length ≤ c0) (hr1 : Kd.C (Kd.int .u8) w A1 l1.length l1) (hc1 : l1.length ≤ c1) (h : laws_FnTempos.f k l0 l1 = some r) :
  Calls Try.prog 12 #[.slice A0 l0.length c0, .slice A1 l1.length c1] w fun e w' => e = .returned (.bool r) ∧ Below w.heap.size w w' := by
 have hu48 := Try.underlying48
 have HR0 := M_ hr0
 have HC0 := M_ hc0
 clear hr0 hc0
 have HR1 := M_ hr1
 have HC1 := M_ hc1
 clear hr1 hc1
 have HB := M_ (Below.refl w.heap.size w)
 have H : (if (wrap64 ((l0.length : Int) + (l1.length : Int))) > 1048576 then (some true) else ((spec_DrawTimeOf.f k l0).bind fun bt409 => ((impl_TimeOf.f k bt409.1 bt409.2).bind fun bt413 => ((spec_TimeOf.f k bt409.1 bt409.2).bind fun bt415 => ((spec_DrawStepAtTime.f k l1).bind fun bt417 => ((impl_StepAtTime.f k bt417.1 bt417.2).bind fun bt421 => ((spec_StepAtTime.f k bt417.1 bt417.2).bind fun bt423 => ((spec_DrawTimeBetween.f k l1).bind fun bt425 => ((impl_TimeBetween.f k bt425.1 bt425.2.1 bt425.2.2).bind fun bt430 => ((spec_TimeBetween.f k bt425.1 bt425.2.1 bt425.2.2).bind fun bt432 => ((spec_DrawAddTempo.f k l1).bind fun bt434 => ((impl_AddTempo.f k bt434.1 bt434.2.1 bt434.2.2).bind fun bt440 => ((spec_AddTempo.f k bt434.1 bt434.2.1 bt434.2.2).bind fun bt444 => (if (bt413.2 != bt415.2) = true then (laws_FnTempos.j0 k bt409.1 bt409.2 bt413.2 bt415.1 bt417.1 bt417.2 bt421.2 bt423.1 bt425.1 bt425.2.1 bt425.2.2 bt430.2 bt432.1 bt440.1 bt440.2 true bt434.2.1 bt434.2.2) else (if bt413.1 = bt415.1 then (if (bt421.2 != bt423.2) = true then (laws_FnTempos.j0 k bt409.1 bt409.2 bt413.2 bt415.1 bt417.1 bt417.2 bt421.2 bt423.1 bt425.1 bt425.2.1 bt425.2.2 bt430.2 bt432.1 bt440.1 bt440.2 true bt434.2.1 bt434.2.2) else (if bt421.1 = bt423.1 then (if (bt430.2 != bt432.2) = true then (laws_FnTempos.j0 k bt409.1 bt409.2 bt413.2 bt415.1 bt417.1 bt417.2 bt421.2 bt423.1 bt425.1 bt425.2.1 bt425.2.2 bt430.2 bt432.1 bt440.1 bt440.2 true bt434.2.1 bt434.2.2) else (if bt430.1 = bt432.1 then (if (bt440.2 != bt444.2) = true then (laws_FnTempos.j0 k bt409.1 bt409.2 bt413.2 bt415.1 bt417.1 bt417.2 bt421.2 bt423.1 bt425.1 bt425.2.1 bt425.2.2 bt430.2 bt432.1 bt440.1 bt440.2 true bt434.2.1 bt434.2.2) else ((laws_qTempos.f k bt440.1 bt444.1).bind fun t448 => (laws_FnTempos.j0 k bt409.1 bt409.2 bt413.2 bt415.1 bt417.1 bt417.2 bt421.2 bt423.1 bt425.1 bt425.2.1 bt425.2.2 bt430.2 bt432.1 bt440.1 bt440.2 (!t448) bt434.2.1 bt434.2.2))) else (laws_FnTempos.j0 k bt409.1 bt409.2 bt413.2 bt415.1 bt417.1 bt417.2 bt421.2 bt423.1 bt425.1 bt425.2.1 bt425.2.2 bt430.2 bt432.1 bt440.1 bt440.2 true bt434.2.1 bt434.2.2))) else (laws_FnTempos.j0 k bt409.1 bt409.2 bt413.2 bt415.1 bt417.1 bt417.2 bt421.2 bt423.1 bt425.1 bt425.2.1 bt425.2.2 bt430.2 bt432.1 bt440.1 bt440.2 true bt434.2.1 bt434.2.2))) else (laws_FnTempos.j0 k bt409.1 bt409.2 bt413.2 bt415.1 bt417.1 bt417.2 bt421.2 bt423.1 bt425.1 bt425.2.1 bt425.2.2 bt430.2 bt432.1 bt440.1 bt440.2 true bt434.2.1 bt434.2.2)))))))))))))))) = some r := h
 clear h
 by_cases c3 : (wrap64 ((l0.length : Int) + (l1.length : Int))) > 1048576
 ·rw [if_pos c3] at H
  have c3b0 : decide (1048576 < (wrap64 ((l0.length : Int) + (l1.length : Int)))) = true := decide_eq_true c3
  clear c3
  obtain rfl := Option.some.inj H
  go_enter Try.func12, Try.ntmps12
  go_wp2
  go_ret
  exact ⟨by first | rfl | (simp [errW_none, errW_some] <;> rfl) | (simp [*, errW_none, errW_some] <;> rfl), by repeat (first | (with_reducible first | exact HB.out | apply ba_ | apply bn_ | apply b1_) | exact HB.out)⟩
 ·rw [if_neg c3] at H
  have c3b0 : decide (1048576 < (wrap64 ((l0.length : Int) + (l1.length : Int)))) = false := decide_eq_false c3
  clear c3
  replace H := Option.bind_eq_some_iff.mp H
  obtain ⟨⟨t409, t410⟩, A40, H⟩ := H
  replace H : ((impl_TimeOf.f k t409 t410).bind fun bt413 => ((spec_TimeOf.f k t409 t410).bind fun bt415 => ((spec_DrawStepAtTime.f k l1).bind fun bt417 => ((impl_StepAtTime.f k bt417.1 bt417.2).bind fun bt421 => ((spec_StepAtTime.f k bt417.1 bt417.2).bind fun bt423 => ((spec_DrawTimeBetween.f k l1).bind fun bt425 => ((impl_TimeBetween.f k bt425.1 bt425.2.1 bt425.2.2).bind fun bt430 => ((spec_TimeBetween.f k bt425.1 bt425.2.1 bt425.2.2).bind fun bt432 => ((spec_DrawAddTempo.f k l1).bind fun bt434 => ((impl_AddTempo.f k bt434.1 bt434.2.1 bt434.2.2).bind fun bt440 => ((spec_AddTempo.f k bt434.1 bt434.2.1 bt434.2.2).bind fun bt444 => (if (bt413.2 != bt415.2) = true then (laws_FnTempos.j0 k t409 t410 bt413.2 bt415.1 bt417.1 bt417.2 bt421.2 bt423.1 bt425.1 bt425.2.1 bt425.2.2 bt430.2 bt432.1 bt440.1 bt440.2 true bt434.2.1 bt434.2.2) else (if bt413.1 = bt415.1 then (if (bt421.2 != bt423.2) = true then (laws_FnTempos.j0 k t409 t410 bt413.2 bt415.1 bt417.1 bt417.2 bt421.2 bt423.1 bt425.1 bt425.2.1 bt425.2.2 bt430.2 bt432.1 bt440.1 bt440.2 true bt434.2.1 bt434.2.2) else (if bt421.1 = bt423.1 then (if (bt430.2 != bt432.2) = true then (laws_FnTempos.j0 k t409 t410 bt413.2 bt415.1 bt417.1 bt417.2 bt421.2 bt423.1 bt425.1 bt425.2.1 bt425.2.2 bt430.2 bt432.1 bt440.1 bt440.2 true bt434.2.1 bt434.2.2) else (if bt430.1 = bt432.1 then (if (bt440.2 != bt444.2) = true then (laws_FnTempos.j0 k t409 t410 bt413.2 bt415.1 bt417.1 bt417.2 bt421.2 bt423.1 bt425.1 bt425.2.1 bt425.2.2 bt430.2 bt432.1 bt440.1 bt440.2 true bt434.2.1 bt434.2.2) else ((laws_qTempos.f k bt440.1 bt444.1).bind fun t448 => (laws_FnTempos.j0 k t409 t410 bt413.2 bt415.1 bt417.1 bt417.2 bt421.2 bt423.1 bt425.1 bt425.2.1 bt425.2.2 bt430.2 bt432.1 bt440.1 bt440.2 (!t448) bt434.2.1 bt434.2.2))) else (laws_FnTempos.j0 k t409 t410 bt413.2 bt415.1 bt417.1 bt417.2 bt421.2 bt423.1 bt425.1 bt425.2.1 bt425.2.2 bt430.2 bt432.1 bt440.1 bt440.2 true bt434.2.1 bt434.2.2))) else (laws_FnTempos.j0 k t409 t410 bt413.2 bt415.1 bt417.1 bt417.2 bt421.2 bt423.1 bt425.1 bt425.2.1 bt425.2.2 bt430.2 bt432.1 bt440.1 bt440.2 true bt434.2.1 bt434.2.2))) else (laws_FnTempos.j0 k t409 t410 bt413.2 bt415.1 bt417.1 bt417.2 bt421.2 bt423.1 bt425.1 bt425.2.1 bt425.2.2 bt430.2 bt432.1 bt440.1 bt440.2 true bt434.2.1 bt434.2.2)))))))))))))) = some r := H
  have A4 := M_ A40
  clear A40
  replace H := Option.bind_eq_some_iff.mp H
  obtain ⟨⟨t413, t414⟩, A50, H⟩ := H
  replace H : ((spec_TimeOf.f k t409 t410).bind fun bt415 => ((spec_DrawStepAtTime.f k l1).bind fun bt417 => ((impl_StepAtTime.f k bt417.1 bt417.2).bind fun bt421 => ((spec_StepAtTime.f k bt417.1 bt417.2).bind fun bt423 => ((spec_DrawTimeBetween.f k l1).bind fun bt425 => ((impl_TimeBetween.f k bt425.1 bt425.2.1 bt425.2.2).bind fun bt430 => ((spec_TimeBetween.f k bt425.1 bt425.2.1 bt425.2.2).bind fun bt432 => ((spec_DrawAddTempo.f k l1).bind fun bt434 => ((impl_AddTempo.f k bt434.1 bt434.2.1 bt434.2.2).bind fun bt440 => ((spec_AddTempo.f k bt434.1 bt434.2.1 bt434.2.2).bind fun bt444 => (if (t414 != bt415.2) = true then (laws_FnTempos.j0 k t409 t410 t414 bt415.1 bt417.1 bt417.2 bt421.2 bt423.1 bt425.1 bt425.2.1 bt425.2.2 bt430.2 bt432.1 bt440.1 bt440.2 true bt434.2.1 bt434.2.2) else (if t413 = bt415.1 then (if (bt421.2 != bt423.2) = true then (laws_FnTempos.j0 k t409 t410 t414 bt415.1 bt417.1 bt417.2 bt421.2 bt423.1 bt425.1 bt425.2.1 bt425.2.2 bt430.2 bt432.1 bt440.1 bt440.2 true bt434.2.1 bt434.2.2) else (if bt421.1 = bt423.1 then (if (bt430.2 != bt432.2) = true then (laws_FnTempos.j0 k t409 t410 t414 bt415.1 bt417.1 bt417.2 bt421.2 bt423.1 bt425.1 bt425.2.1 bt425.2.2 bt430.2 bt432.1 bt440.1 bt440.2 true bt434.2.1 bt434.2.2) else (if bt430.1 = bt432.1 then (if (bt440.2 != bt444.2) = true then (laws_FnTempos.j0 k t409 t410 t414 bt415.1 bt417.1 bt417.2 bt421.2 bt423.1 bt425.1 bt425.2.1 bt425.2.2 bt430.2 bt432.1 bt440.1 bt440.2 true bt434.2.1 bt434.2.2) else ((laws_qTempos.f k bt440.1 bt444.1).bind fun t448 => (laws_FnTempos.j0 k t409 t410 t414 bt415.1 bt417.1 bt417.2 bt421.2 bt423.1 bt425.1 bt425.2.1 bt425.2.2 bt430.2 bt432.1 bt440.1 bt440.2 (!t448) bt434.2.1 bt434.2.2))) else (laws_FnTempos.j0 k t409 t410 t414 bt415.1 bt417.1 bt417.2 bt421.2 bt423.1 bt425.1 bt425.2.1 bt425.2.2 bt430.2 bt432.1 bt440.1 bt440.2 true bt434.2.1 bt434.2.2))) else (laws_FnTempos.j0 k t409 t410 t414 bt415.1 bt417.1 bt417.2 bt421.2 bt423.1 bt425.1 bt425.2.1 bt425.2.2 bt430.2 bt432.1 bt440.1 bt440.2 true bt434.2.1 bt434.2.2))) else (laws_FnTempos.j0 k t409 t410 t414 bt415.1 bt417.1 bt417.2 bt421.2 bt423.1 bt425.1 bt425.2.1 bt425.2.2 bt430.2 bt432.1 bt440.1 bt440.2 true bt434.2.1 bt434.2.2))))))))))))) = some r := H
  have A5 := M_ A50
  clear A50
  replace H := Option.bind_eq_some_iff.mp H
  obtain ⟨⟨t415, t416⟩, A60, H⟩ := H
  replace H : ((spec_DrawStepAtTime.f k l1).bind fun bt417 => ((impl_StepAtTime.f k bt417.1 bt417.2).bind fun bt421 => ((spec_StepAtTime.f k bt417.1 bt417.2).bind fun bt423 => ((spec_DrawTimeBetween.f k l1).bind fun bt425 => ((impl_TimeBetween.f k bt425.1 bt425.2.1 bt425.2.2).bind fun bt430 => ((spec_TimeBetween.f k bt425.1 bt425.2.1 bt425.2.2).bind fun bt432 => ((spec_DrawAddTempo.f k l1).bind fun bt434 => ((impl_AddTempo.f k bt434.1 bt434.2.1 bt434.2.2).bind fun bt440 => ((spec_AddTempo.f k bt434.1 bt434.2.1 bt434.2.2).bind fun bt444 => (if (t414 != t416) = true then (laws_FnTempos.j0 k t409 t410 t414 t415 bt417.1 bt417.2 bt421.2 bt423.1 bt425.1 bt425.2.1 bt425.2.2 bt430.2 bt432.1 bt440.1 bt440.2 true bt434.2.1 bt434.2.2) else (if t413 = t415 then (if (bt421.2 != bt423.2) = true then (laws_FnTempos.j0 k t409 t410 t414 t415 bt417.1 bt417.2 bt421.2 bt423.1 bt425.1 bt425.2.1 bt425.2.2 bt430.2 bt432.1 bt440.1 bt440.2 true bt434.2.1 bt434.2.2) else (if bt421.1 = bt423.1 then (if (bt430.2 != bt432.2) = true then (laws_FnTempos.j0 k t409 t410 t414 t415 bt417.1 bt417.2 bt421.2 bt423.1 bt425.1 bt425.2.1 bt425.2.2 bt430.2 bt432.1 bt440.1 bt440.2 true bt434.2.1 bt434.2.2) else (if bt430.1 = bt432.1 then (if (bt440.2 != bt444.2) = true then (laws_FnTempos.j0 k t409 t410 t414 t415 bt417.1 bt417.2 bt421.2 bt423.1 bt425.1 bt425.2.1 bt425.2.2 bt430.2 bt432.1 bt440.1 bt440.2 true bt434.2.1 bt434.2.2) else ((laws_qTempos.f k bt440.1 bt444.1).bind fun t448 => (laws_FnTempos.j0 k t409 t410 t414 t415 bt417.1 bt417.2 bt421.2 bt423.1 bt425.1 bt425.2.1 bt425.2.2 bt430.2 bt432.1 bt440.1 bt440.2 (!t448) bt434.2.1 bt434.2.2))) else (laws_FnTempos.j0 k t409 t410 t414 t415 bt417.1 bt417.2 bt421.2 bt423.1 bt425.1 bt425.2.1 bt425.2.2 bt430.2 bt432.1 bt440.1 bt440.2 true bt434.2.1 bt434.2.2))) else (laws_FnTempos.j0 k t409 t410 t414 t415 bt417.1 bt417.2 bt421.2 bt423.1 bt425.1 bt425.2.1 bt425.2.2 bt430.2 bt432.1 bt440.1 bt440.2 true bt434.2.1 bt434.2.2))) else (laws_FnTempos.j0 k t409 t410 t414 t415 bt417.1 bt417.2 bt421.2 bt423.1 bt425.1 bt425.2.1 bt425.2.2 bt430.2 bt432.1 bt440.1 bt440.2 true bt434.2.1 bt434.2.2)))))))))))) = some r := H
  have A6 := M_ A60
  clear A60
  replace H := Option.bind_eq_some_iff.mp H
  obtain ⟨⟨t417, t418⟩, A70, H⟩ := H
  replace H : ((impl_StepAtTime.f k t417 t418).bind fun bt421 => ((spec_StepAtTime.f k t417 t418).bind fun bt423 => ((spec_DrawTimeBetween.f k l1).bind fun bt425 => ((impl_TimeBetween.f k bt425.1 bt425.2.1 bt425.2.2).bind fun bt430 => ((spec_TimeBetween.f k bt425.1 bt425.2.1 bt425.2.2).bind fun bt432 => ((spec_DrawAddTempo.f k l1).bind fun bt434 => ((impl_AddTempo.f k bt434.1 bt434.2.1 bt434.2.2).bind fun bt440 => ((spec_AddTempo.f k bt434.1 bt434.2.1 bt434.2.2).bind fun bt444 => (if (t414 != t416) = true then (laws_FnTempos.j0 k t409 t410 t414 t415 t417 t418 bt421.2 bt423.1 bt425.1 bt425.2.1 bt425.2.2 bt430.2 bt432.1 bt440.1 bt440.2 true bt434.2.1 bt434.2.2) else (if t413 = t415 then (if (bt421.2 != bt423.2) = true then (laws_FnTempos.j0 k t409 t410 t414 t415 t417 t418 bt421.2 bt423.1 bt425.1 bt425.2.1 bt425.2.2 bt430.2 bt432.1 bt440.1 bt440.2 true bt434.2.1 bt434.2.2) else (if bt421.1 = bt423.1 then (if (bt430.2 != bt432.2) = true then (laws_FnTempos.j0 k t409 t410 t414 t415 t417 t418 bt421.2 bt423.1 bt425.1 bt425.2.1 bt425.2.2 bt430.2 bt432.1 bt440.1 bt440.2 true bt434.2.1 bt434.2.2) else (if bt430.1 = bt432.1 then (if (bt440.2 != bt444.2) = true then (laws_FnTempos.j0 k t409 t410 t414 t415 t417 t418 bt421.2 bt423.1 bt425.1 bt425.2.1 bt425.2.2 bt430.2 bt432.1 bt440.1 bt440.2 true bt434.2.1 bt434.2.2) else ((laws_qTempos.f k bt440.1 bt444.1).bind fun t448 => (laws_FnTempos.j0 k t409 t410 t414 t415 t417 t418 bt421.2 bt423.1 bt425.1 bt425.2.1 bt425.2.2 bt430.2 bt432.1 bt440.1 bt440.2 (!t448) bt434.2.1 bt434.2.2))) else (laws_FnTempos.j0 k t409 t410 t414 t415 t417 t418 bt421.2 bt423.1 bt425.1 bt425.2.1 bt425.2.2 bt430.2 bt432.1 bt440.1 bt440.2 true bt434.2.1 bt434.2.2))) else (laws_FnTempos.j0 k t409 t410 t414 t415 t417 t418 bt421.2 bt423.1 bt425.1 bt425.2.1 bt425.2.2 bt430.2 bt432.1 bt440.1 bt440.2 true bt434.2.1 bt434.2.2))) else (laws_FnTempos.j0 k t409 t410 t414 t415 t417 t418 bt421.2 bt423.1 bt425.1 bt425.2.1 bt425.2.2 bt430.2 bt432.1 bt440.1 bt440.2 true bt434.2.1 bt434.2.2))))))))))) = some r := H
  have A7 := M_ A70
  clear A70
  replace H := Option.bind_eq_some_iff.mp H
  obtain ⟨⟨t421, t422⟩, A80, H⟩ := H
  replace H : ((spec_StepAtTime.f k t417 t418).bind fun bt423 => ((spec_DrawTimeBetween.f k l1).bind fun bt425 => ((impl_TimeBetween.f k bt425.1 bt425.2.1 bt425.2.2).bind fun bt430 => ((spec_TimeBetween.f k bt425.1 bt425.2.1 bt425.2.2).bind fun bt432 => ((spec_DrawAddTempo.f k l1).bind fun bt434 => ((impl_AddTempo.f k bt434.1 bt434.2.1 bt434.2.2).bind fun bt440 => ((spec_AddTempo.f k bt434.1 bt434.2.1 bt434.2.2).bind fun bt444 => (if (t414 != t416) = true then (laws_FnTempos.j0 k t409 t410 t414 t415 t417 t418 t422 bt423.1 bt425.1 bt425.2.1 bt425.2.2 bt430.2 bt432.1 bt440.1 bt440.2 true bt434.2.1 bt434.2.2) else (if t413 = t415 then (if (t422 != bt423.2) = true then (laws_FnTempos.j0 k t409 t410 t414 t415 t417 t418 t422 bt423.1 bt425.1 bt425.2.1 bt425.2.2 bt430.2 bt432.1 bt440.1 bt440.2 true bt434.2.1 bt434.2.2) else (if t421 = bt423.1 then (if (bt430.2 != bt432.2) = true then (laws_FnTempos.j0 k t409 t410 t414 t415 t417 t418 t422 bt423.1 bt425.1 bt425.2.1 bt425.2.2 bt430.2 bt432.1 bt440.1 bt440.2 true bt434.2.1 bt434.2.2) else (if bt430.1 = bt432.1 then (if (bt440.2 != bt444.2) = true then (laws_FnTempos.j0 k t409 t410 t414 t415 t417 t418 t422 bt423.1 bt425.1 bt425.2.1 bt425.2.2 bt430.2 bt432.1 bt440.1 bt440.2 true bt434.2.1 bt434.2.2) else ((laws_qTempos.f k bt440.1 bt444.1).bind fun t448 => (laws_FnTempos.j0 k t409 t410 t414 t415 t417 t418 t422 bt423.1 bt425.1 bt425.2.1 bt425.2.2 bt430.2 bt432.1 bt440.1 bt440.2 (!t448) bt434.2.1 bt434.2.2))) else (laws_FnTempos.j0 k t409 t410 t414 t415 t417 t418 t422 bt423.1 bt425.1 bt425.2.1 bt425.2.2 bt430.2 bt432.1 bt440.1 bt440.2 true bt434.2.1 bt434.2.2))) else (laws_FnTempos.j0 k t409 t410 t414 t415 t417 t418 t422 bt423.1 bt425.1 bt425.2.1 bt425.2.2 bt430.2 bt432.1 bt440.1 bt440.2 true bt434.2.1 bt434.2.2))) else (laws_FnTempos.j0 k t409 t410 t414 t415 t417 t418 t422 bt423.1 bt425.1 bt425.2.1 bt425.2.2 bt430.2 bt432.1 bt440.1 bt440.2 true bt434.2.1 bt434.2.2)))))))))) = some r := H
  have A8 := M_ A80
  clear A80
  replace H := Option.bind_eq_some_iff.mp H
  obtain ⟨⟨t423, t424⟩, A90, H⟩ := H
  replace H : ((spec_DrawTimeBetween.f k l1).bind fun bt425 => ((impl_TimeBetween.f k bt425.1 bt425.2.1 bt425.2.2).bind fun bt430 => ((spec_TimeBetween.f k bt425.1 bt425.2.1 bt425.2.2).bind fun bt432 => ((spec_DrawAddTempo.f k l1).bind fun bt434 => ((impl_AddTempo.f k bt434.1 bt434.2.1 bt434.2.2).bind fun bt440 => ((spec_AddTempo.f k bt434.1 bt434.2.1 bt434.2.2).bind fun bt444 => (if (t414 != t416) = true then (laws_FnTempos.j0 k t409 t410 t414 t415 t417 t418 t422 t423 bt425.1 bt425.2.1 bt425.2.2 bt430.2 bt432.1 bt440.1 bt440.2 true bt434.2.1 bt434.2.2) else (if t413 = t415 then (if (t422 != t424) = true then (laws_FnTempos.j0 k t409 t410 t414 t415 t417 t418 t422 t423 bt425.1 bt425.2.1 bt425.2.2 bt430.2 bt432.1 bt440.1 bt440.2 true bt434.2.1 bt434.2.2) else (if t421 = t423 then (if (bt430.2 != bt432.2) = true then (laws_FnTempos.j0 k t409 t410 t414 t415 t417 t418 t422 t423 bt425.1 bt425.2.1 bt425.2.2 bt430.2 bt432.1 bt440.1 bt440.2 true bt434.2.1 bt434.2.2) else (if bt430.1 = bt432.1 then (if (bt440.2 != bt444.2) = true then (laws_FnTempos.j0 k t409 t410 t414 t415 t417 t418 t422 t423 bt425.1 bt425.2.1 bt425.2.2 bt430.2 bt432.1 bt440.1 bt440.2 true bt434.2.1 bt434.2.2) else ((laws_qTempos.f k bt440.1 bt444.1).bind fun t448 => (laws_FnTempos.j0 k t409 t410 t414 t415 t417 t418 t422 t423 bt425.1 bt425.2.1 bt425.2.2 bt430.2 bt432.1 bt440.1 bt440.2 (!t448) bt434.2.1 bt434.2.2))) else (laws_FnTempos.j0 k t409 t410 t414 t415 t417 t418 t422 t423 bt425.1 bt425.2.1 bt425.2.2 bt430.2 bt432.1 bt440.1 bt440.2 true bt434.2.1 bt434.2.2))) else (laws_FnTempos.j0 k t409 t410 t414 t415 t417 t418 t422 t423 bt425.1 bt425.2.1 bt425.2.2 bt430.2 bt432.1 bt440.1 bt440.2 true bt434.2.1 bt434.2.2))) else (laws_FnTempos.j0 k t409 t410 t414 t415 t417 t418 t422 t423 bt425.1 bt425.2.1 bt425.2.2 bt430.2 bt432.1 bt440.1 bt440.2 true bt434.2.1 bt434.2.2))))))))) = some r := H
  have A9 := M_ A90
  clear A90
  replace H := Option.bind_eq_some_iff.mp H
  obtain ⟨⟨t425, t426, t427⟩, A100, H⟩ := H
  replace H : ((impl_TimeBetween.f k t425 t426 t427).bind fun bt430 => ((spec_TimeBetween.f k t425 t426 t427).bind fun bt432 => ((spec_DrawAddTempo.f k l1).bind fun bt434 => ((impl_AddTempo.f k bt434.1 bt434.2.1 bt434.2.2).bind fun bt440 => ((spec_AddTempo.f k bt434.1 bt434.2.1 bt434.2.2).bind fun bt444 => (if (t414 != t416) = true then (laws_FnTempos.j0 k t409 t410 t414 t415 t417 t418 t422 t423 t425 t426 t427 bt430.2 bt432.1 bt440.1 bt440.2 true bt434.2.1 bt434.2.2) else (if t413 = t415 then (if (t422 != t424) = true then (laws_FnTempos.j0 k t409 t410 t414 t415 t417 t418 t422 t423 t425 t426 t427 bt430.2 bt432.1 bt440.1 bt440.2 true bt434.2.1 bt434.2.2) else (if t421 = t423 then (if (bt430.2 != bt432.2) = true then (laws_FnTempos.j0 k t409 t410 t414 t415 t417 t418 t422 t423 t425 t426 t427 bt430.2 bt432.1 bt440.1 bt440.2 true bt434.2.1 bt434.2.2) else (if bt430.1 = bt432.1 then (if (bt440.2 != bt444.2) = true then (laws_FnTempos.j0 k t409 t410 t414 t415 t417 t418 t422 t423 t425 t426 t427 bt430.2 bt432.1 bt440.1 bt440.2 true bt434.2.1 bt434.2.2) else ((laws_qTempos.f k bt440.1 bt444.1).bind fun t448 => (laws_FnTempos.j0 k t409 t410 t414 t415 t417 t418 t422 t423 t425 t426 t427 bt430.2 bt432.1 bt440.1 bt440.2 (!t448) bt434.2.1 bt434.2.2))) else (laws_FnTempos.j0 k t409 t410 t414 t415 t417 t418 t422 t423 t425 t426 t427 bt430.2 bt432.1 bt440.1 bt440.2 true bt434.2.1 bt434.2.2))) else (laws_FnTempos.j0 k t409 t410 t414 t415 t417 t418 t422 t423 t425 t426 t427 bt430.2 bt432.1 bt440.1 bt440.2 true bt434.2.1 bt434.2.2))) else (laws_FnTempos.j0 k t409 t410 t414 t415 t417 t418 t422 t423 t425 t426 t427 bt430.2 bt432.1 bt440.1 bt440.2 true bt434.2.1 bt434.2.2)))))))) = some r := H
  have A10 := M_ A100
  clear A100
  replace H := Option.bind_eq_some_iff.mp H
  obtain ⟨⟨t430, t431⟩, A110, H⟩ := H
  replace H : ((spec_TimeBetween.f k t425 t426 t427).bind fun bt432 => ((spec_DrawAddTempo.f k l1).bind fun bt434 => ((impl_AddTempo.f k bt434.1 bt434.2.1 bt434.2.2).bind fun bt440 => ((spec_AddTempo.f k bt434.1 bt434.2.1 bt434.2.2).bind fun bt444 => (if (t414 != t416) = true then (laws_FnTempos.j0 k t409 t410 t414 t415 t417 t418 t422 t423 t425 t426 t427 t431 bt432.1 bt440.1 bt440.2 true bt434.2.1 bt434.2.2) else (if t413 = t415 then (if (t422 != t424) = true then (laws_FnTempos.j0 k t409 t410 t414 t415 t417 t418 t422 t423 t425 t426 t427 t431 bt432.1 bt440.1 bt440.2 true bt434.2.1 bt434.2.2) else (if t421 = t423 then (if (t431 != bt432.2) = true then (laws_FnTempos.j0 k t409 t410 t414 t415 t417 t418 t422 t423 t425 t426 t427 t431 bt432.1 bt440.1 bt440.2 true bt434.2.1 bt434.2.2) else (if t430 = bt432.1 then (if (bt440.2 != bt444.2) = true then (laws_FnTempos.j0 k t409 t410 t414 t415 t417 t418 t422 t423 t425 t426 t427 t431 bt432.1 bt440.1 bt440.2 true bt434.2.1 bt434.2.2) else ((laws_qTempos.f k bt440.1 bt444.1).bind fun t448 => (laws_FnTempos.j0 k t409 t410 t414 t415 t417 t418 t422 t423 t425 t426 t427 t431 bt432.1 bt440.1 bt440.2 (!t448) bt434.2.1 bt434.2.2))) else (laws_FnTempos.j0 k t409 t410 t414 t415 t417 t418 t422 t423 t425 t426 t427 t431 bt432.1 bt440.1 bt440.2 true bt434.2.1 bt434.2.2))) else (laws_FnTempos.j0 k t409 t410 t414 t415 t417 t418 t422 t423 t425 t426 t427 t431 bt432.1 bt440.1 bt440.2 true bt434.2.1 bt434.2.2))) else (laws_FnTempos.j0 k t409 t410 t414 t415 t417 t418 t422 t423 t425 t426 t427 t431 bt432.1 bt440.1 bt440.2 true bt434.2.1 bt434.2.2))))))) = some r := H
  have A11 := M_ A110
  clear A110
  replace H := Option.bind_eq_some_iff.mp H
  obtain ⟨⟨t432, t433⟩, A120, H⟩ := H
  replace H : ((spec_DrawAddTempo.f k l1).bind fun bt434 => ((impl_AddTempo.f k bt434.1 bt434.2.1 bt434.2.2).bind fun bt440 => ((spec_AddTempo.f k bt434.1 bt434.2.1 bt434.2.2).bind fun bt444 => (if (t414 != t416) = true then (laws_FnTempos.j0 k t409 t410 t414 t415 t417 t418 t422 t423 t425 t426 t427 t431 t432 bt440.1 bt440.2 true bt434.2.1 bt434.2.2) else (if t413 = t415 then (if (t422 != t424) = true then (laws_FnTempos.j0 k t409 t410 t414 t415 t417 t418 t422 t423 t425 t426 t427 t431 t432 bt440.1 bt440.2 true bt434.2.1 bt434.2.2) else (if t421 = t423 then (if (t431 != t433) = true then (laws_FnTempos.j0 k t409 t410 t414 t415 t417 t418 t422 t423 t425 t426 t427 t431 t432 bt440.1 bt440.2 true bt434.2.1 bt434.2.2) else (if t430 = t432 then (if (bt440.2 != bt444.2) = true then (laws_FnTempos.j0 k t409 t410 t414 t415 t417 t418 t422 t423 t425 t426 t427 t431 t432 bt440.1 bt440.2 true bt434.2.1 bt434.2.2) else ((laws_qTempos.f k bt440.1 bt444.1).bind fun t448 => (laws_FnTempos.j0 k t409 t410 t414 t415 t417 t418 t422 t423 t425 t426 t427 t431 t432 bt440.1 bt440.2 (!t448) bt434.2.1 bt434.2.2))) else (laws_FnTempos.j0 k t409 t410 t414 t415 t417 t418 t422 t423 t425 t426 t427 t431 t432 bt440.1 bt440.2 true bt434.2.1 bt434.2.2))) else (laws_FnTempos.j0 k t409 t410 t414 t415 t417 t418 t422 t423 t425 t426 t427 t431 t432 bt440.1 bt440.2 true bt434.2.1 bt434.2.2))) else (laws_FnTempos.j0 k t409 t410 t414 t415 t417 t418 t422 t423 t425 t426 t427 t431 t432 bt440.1 bt440.2 true bt434.2.1 bt434.2.2)))))) = some r := H
  have A12 := M_ A120
  clear A120
  replace H := Option.bind_eq_some_iff.mp H
  obtain ⟨⟨t434, t437, t438⟩, A130, H⟩ := H
  replace H : ((impl_AddTempo.f k t434 t437 t438).bind fun bt440 => ((spec_AddTempo.f k t434 t437 t438).bind fun bt444 => (if (t414 != t416) = true then (laws_FnTempos.j0 k t409 t410 t414 t415 t417 t418 t422 t423 t425 t426 t427 t431 t432 bt440.1 bt440.2 true t437 t438) else (if t413 = t415 then (if (t422 != t424) = true then (laws_FnTempos.j0 k t409 t410 t414 t415 t417 t418 t422 t423 t425 t426 t427 t431 t432 bt440.1 bt440.2 true t437 t438) else (if t421 = t423 then (if (t431 != t433) = true then (laws_FnTempos.j0 k t409 t410 t414 t415 t417 t418 t422 t423 t425 t426 t427 t431 t432 bt440.1 bt440.2 true t437 t438) else (if t430 = t432 then (if (bt440.2 != bt444.2) = true then (laws_FnTempos.j0 k t409 t410 t414 t415 t417 t418 t422 t423 t425 t426 t427 t431 t432 bt440.1 bt440.2 true t437 t438) else ((laws_qTempos.f k bt440.1 bt444.1).bind fun t448 => (laws_FnTempos.j0 k t409 t410 t414 t415 t417 t418 t422 t423 t425 t426 t427 t431 t432 bt440.1 bt440.2 (!t448) t437 t438))) else (laws_FnTempos.j0 k t409 t410 t414 t415 t417 t418 t422 t423 t425 t426 t427 t431 t432 bt440.1 bt440.2 true t437 t438))) else (laws_FnTempos.j0 k t409 t410 t414 t415 t417 t418 t422 t423 t425 t426 t427 t431 t432 bt440.1 bt440.2 true t437 t438))) else (laws_FnTempos.j0 k t409 t410 t414 t415 t417 t418 t422 t423 t425 t426 t427 t431 t432 bt440.1 bt440.2 true t437 t438))))) = some r := H
  have A13 := M_ A130
  clear A130
  replace H := Option.bind_eq_some_iff.mp H
  obtain ⟨⟨t440, t443⟩, A140, H⟩ := H
  replace H : ((spec_AddTempo.f k t434 t437 t438).bind fun bt444 => (if (t414 != t416) = true then (laws_FnTempos.j0 k t409 t410 t414 t415 t417 t418 t422 t423 t425 t426 t427 t431 t432 t440 t443 true t437 t438) else (if t413 = t415 then (if (t422 != t424) = true then (laws_FnTempos.j0 k t409 t410 t414 t415 t417 t418 t422 t423 t425 t426 t427 t431 t432 t440 t443 true t437 t438) else (if t421 = t423 then (if (t431 != t433) = true then (laws_FnTempos.j0 k t409 t410 t414 t415 t417 t418 t422 t423 t425 t426 t427 t431 t432 t440 t443 true t437 t438) else (if t430 = t432 then (if (t443 != bt444.2) = true then (laws_FnTempos.j0 k t409 t410 t414 t415 t417 t418 t422 t423 t425 t426 t427 t431 t432 t440 t443 true t437 t438) else ((laws_qTempos.f k t440 bt444.1).bind fun t448 => (laws_FnTempos.j0 k t409 t410 t414 t415 t417 t418 t422 t423 t425 t426 t427 t431 t432 t440 t443 (!t448) t437 t438))) else (laws_FnTempos.j0 k t409 t410 t414 t415 t417 t418 t422 t423 t425 t426 t427 t431 t432 t440 t443 true t437 t438))) else (laws_FnTempos.j0 k t409 t410 t414 t415 t417 t418 t422 t423 t425 t426 t427 t431 t432 t440 t443 true t437 t438))) else (laws_FnTempos.j0 k t409 t410 t414 t415 t417 t418 t422 t423 t425 t426 t427 t431 t432 t440 t443 true t437 t438)))) = some r := H
  have A14 := M_ A140
  clear A140
  replace H := Option.bind_eq_some_iff.mp H
  obtain ⟨⟨t444, t447⟩, A150, H⟩ := H
  replace H : (if (t414 != t416) = true then (laws_FnTempos.j0 k t409 t410 t414 t415 t417 t418 t422 t423 t425 t426 t427 t431 t432 t440 t443 true t437 t438) else (if t413 = t415 then (if (t422 != t424) = true then (laws_FnTempos.j0 k t409 t410 t414 t415 t417 t418 t422 t423 t425 t426 t427 t431 t432 t440 t443 true t437 t438) else (if t421 = t423 then (if (t431 != t433) = true then (laws_FnTempos.j0 k t409 t410 t414 t415 t417 t418 t422 t423 t425 t426 t427 t431 t432 t440 t443 true t437 t438) else (if t430 = t432 then (if (t443 != t447) = true then (laws_FnTempos.j0 k t409 t410 t414 t415 t417 t418 t422 t423 t425 t426 t427 t431 t432 t440 t443 true t437 t438) else ((laws_qTempos.f k t440 t444).bind fun t448 => (laws_FnTempos.j0 k t409 t410 t414 t415 t417 t418 t422 t423 t425 t426 t427 t431 t432 t440 t443 (!t448) t437 t438))) else (laws_FnTempos.j0 k t409 t410 t414 t415 t417 t418 t422 t423 t425 t426 t427 t431 t432 t440 t443 true t437 t438))) else (laws_FnTempos.j0 k t409 t410 t414 t415 t417 t418 t422 t423 t425 t426 t427 t431 t432 t440 t443 true t437 t438))) else (laws_FnTempos.j0 k t409 t410 t414 t415 t417 t418 t422 t423 t425 t426 t427 t431 t432 t440 t443 true t437 t438))) = some r := H
  have A15 := M_ A150
  clear A150
  have HC16 := M_ H
  clear H
  go_enter Try.func12, Try.ntmps12
  go_upto_region 15 with (first | ((with_reducible refine gate_callee (f := 54) rfl ?_); refine goesL_ (some 58) rfl rfl Try.func54 (by kernel_rfl) rfl #[.slice A0 l0.length c0] rfl (by (try simp only [List.map_toArray, List.map_cons, List.map_nil]); first | done | rfl | (simp only [List.length_drop, List.length_take]; rfl)) ?_; (with_reducible refine (spec_DrawTimeOf.calls k _ _ l0 t409 t410 _ ?side1 ?side2 A4.out).mono ?_); (case side1 => repeat (first | exact HR0.out | (with_reducible refine Kd.C_alloc ?_ _) | (with_reducible refine Kd.C_drewN ?_ _) | (with_reducible refine Kd.C_drew ?_))); (case side2 => exact HC0.out); rintro e w17 ⟨v411, rfl, ho0, hb⟩; refine ⟨_, rfl, ?_⟩; have n0_ := M_ (Kd.R_lower ho0 (below_size (by repeat (first | (with_reducible first | exact HB.out | apply ba_ | apply bn_ | apply b1_) | exact HB.out)))); have n1_ := M_ (below_step (by repeat (first | (with_reducible first | exact HB.out | apply ba_ | apply bn_ | apply b1_) | exact HB.out)) hb); clear HB; have HO412 := n0_; have HB := n1_; clear n0_ n1_; (try clear hb); (try clear hb2); (try clear hk); (try clear hi); (try clear ho0); obtain ⟨Ao18, co18, eo18⟩ := Kd.R_slice HO412.out; subst eo18) | ((with_reducible refine gate_callee (f := 55) rfl ?_); refine goesL_ (some 64) rfl rfl Try.func55 (by kernel_rfl) rfl #[.slice Ao18 t409.length co18, .int .i64 t410] rfl (by (try simp only [List.map_toArray, List.map_cons, List.map_nil]); first | done | rfl | (simp only [List.length_drop, List.length_take]; rfl)) ?_; (with_reducible refine (impl_TimeOf.calls k _ _ t409 t410 t413 t414 _ ?side1 ?side2 A5.out).mono ?_); (case side1 => repeat (first | exact (Kd.R_reads' HO412.out).2.2 | (with_reducible refine Kd.C_alloc ?_ _) | (with_reducible refine Kd.C_drewN ?_ _) | (with_reducible refine Kd.C_drew ?_))); (case side2 => exact (Kd.R_reads' HO412.out).2.1); rintro e w19 ⟨rfl, hb⟩; refine ⟨_, rfl, ?_⟩; have n0_ := M_ (rb_ (by (with_reducible repeat (first | apply ra_ | apply rn_ | apply rd_)); exact HO412.out) hb); have n1_ := M_ (below_step (by repeat (first | (with_reducible first | exact HB.out | apply ba_ | apply bn_ | apply b1_) | exact HB.out)) hb); clear HO412; clear HB; have HO412 := n0_; have HB := n1_; clear n0_ n1_; (try clear hb); (try clear hb2); (try clear hk); (try clear hi)) | ((with_reducible refine gate_callee (f := 56) rfl ?_); refine goesL_ (some 70) rfl rfl Try.func56 (by kernel_rfl) rfl #[.slice Ao18 t409.length co18, .int .i64 t410] rfl (by (try simp only [List.map_toArray, List.map_cons, List.map_nil]); first | done | rfl | (simp only [List.length_drop, List.length_take]; rfl)) ?_; (with_reducible refine (spec_TimeOf.calls k _ _ t409 t410 t415 t416 _ ?side1 ?side2 A6.out).mono ?_); (case side1 => repeat (first | exact (Kd.R_reads' HO412.out).2.2 | (with_reducible refine Kd.C_alloc ?_ _) | (with_reducible refine Kd.C_drewN ?_ _) | (with_reducible refine Kd.C_drew ?_))); (case side2 => exact (Kd.R_reads' HO412.out).2.1); rintro e w20 ⟨rfl, hb⟩; refine ⟨_, rfl, ?_⟩; have n0_ := M_ (rb_ (by (with_reducible repeat (first | apply ra_ | apply rn_ | apply rd_)); exact HO412.out) hb); have n1_ := M_ (below_step (by repeat (first | (with_reducible first | exact HB.out | apply ba_ | apply bn_ | apply b1_) | exact HB.out)) hb); clear HO412; clear HB; have HO412 := n0_; have HB := n1_; clear n0_ n1_; (try clear hb); (try clear hb2); (try clear hk); (try clear hi)) | ((with_reducible refine gate_callee (f := 57) rfl ?_); refine goesL_ (some 75) rfl rfl Try.func57 (by kernel_rfl) rfl #[.slice A1 l1.length c1] rfl (by (try simp only [List.map_toArray, List.map_cons, List.map_nil]); first | done | rfl | (simp only [List.length_drop, List.length_take]; rfl)) ?_; (with_reducible refine (spec_DrawStepAtTime.calls k _ _ l1 t417 t418 _ ?side1 ?side2 A7.out).mono ?_); (case side1 => repeat (first | exact (Kd.C_below HR1.out HB.out) | (with_reducible refine Kd.C_alloc ?_ _) | (with_reducible refine Kd.C_drewN ?_ _) | (with_reducible refine Kd.C_drew ?_))); (case side2 => exact HC1.out); rintro e w21 ⟨v419, rfl, ho0, hb⟩; refine ⟨_, rfl, ?_⟩; have n0_ := M_ (Kd.R_elder' (by (with_reducible repeat (first | apply ra_ | apply rn_ | apply rd_)); exact HO412.out) (Kd.R_base ho0) hb); have n1_ := M_ (Kd.R_lower (Kd.R_new' ho0 (Kd.R_lt (by (with_reducible repeat (first | apply ra_ | apply rn_ | apply rd_)); exact HO412.out))) (below_size (by repeat (first | (with_reducible first | exact HB.out | apply ba_ | apply bn_ | apply b1_) | exact HB.out)))); have n2_ := M_ (below_step (by repeat (first | (with_reducible first | exact HB.out | apply ba_ | apply bn_ | apply b1_) | exact HB.out)) hb); clear HO412; clear HB; have HO412 := n0_; have HO420 := n1_; have HB := n2_; clear n0_ n1_ n2_; (try clear hb); (try clear hb2); (try clear hk); (try clear hi); (try clear ho0); obtain ⟨Ao22, co22, eo22⟩ := Kd.R_slice HO420.out; subst eo22) | ((with_reducible refine gate_callee (f := 58) rfl ?_); refine goesL_ (some 81) rfl rfl Try.func58 (by kernel_rfl) rfl #[.slice Ao22 t417.length co22, .int .i64 t418] rfl (by (try simp only [List.map_toArray, List.map_cons, List.map_nil]); first | done | rfl | (simp only [List.length_drop, List.length_take]; rfl)) ?_; (with_reducible refine (impl_StepAtTime.calls k _ _ t417 t418 t421 t422 _ ?side1 ?side2 A8.out).mono ?_); (case side1 => repeat (first | exact (Kd.R_reads' HO420.out).2.2 | (with_reducible refine Kd.C_alloc ?_ _) | (with_reducible refine Kd.C_drewN ?_ _) | (with_reducible refine Kd.C_drew ?_))); (case side2 => exact (Kd.R_reads' HO420.out).2.1); rintro e w23 ⟨rfl, hb⟩; refine ⟨_, rfl, ?_⟩; have n0_ := M_ (rb_ (by (with_reducible repeat (first | apply ra_ | apply rn_ | apply rd_)); exact HO412.out) hb); have n1_ := M_ (rb_ (by (with_reducible repeat (first | apply ra_ | apply rn_ | apply rd_)); exact HO420.out) hb); have n2_ := M_ (below_step (by repeat (first | (with_reducible first | exact HB.out | apply ba_ | apply bn_ | apply b1_) | exact HB.out)) hb); clear HO412; clear HO420; clear HB; have HO412 := n0_; have HO420 := n1_; have HB := n2_; clear n0_ n1_ n2_; (try clear hb); (try clear hb2); (try clear hk); (try clear hi)) | ((with_reducible refine gate_callee (f := 59) rfl ?_); refine goesL_ (some 87) rfl rfl Try.func59 (by kernel_rfl) rfl #[.slice Ao22 t417.length co22, .int .i64 t418] rfl (by (try simp only [List.map_toArray, List.map_cons, List.map_nil]); first | done | rfl | (simp only [List.length_drop, List.length_take]; rfl)) ?_; (with_reducible refine (spec_StepAtTime.calls k _ _ t417 t418 t423 t424 _ ?side1 ?side2 A9.out).mono ?_); (case side1 => repeat (first | exact (Kd.R_reads' HO420.out).2.2 | (with_reducible refine Kd.C_alloc ?_ _) | (with_reducible refine Kd.C_drewN ?_ _) | (with_reducible refine Kd.C_drew ?_))); (case side2 => exact (Kd.R_reads' HO420.out).2.1); rintro e w24 ⟨rfl, hb⟩; refine ⟨_, rfl, ?_⟩; have n0_ := M_ (rb_ (by (with_reducible repeat (first | apply ra_ | apply rn_ | apply rd_)); exact HO412.out) hb); have n1_ := M_ (rb_ (by (with_reducible repeat (first | apply ra_ | apply rn_ | apply rd_)); exact HO420.out) hb); have n2_ := M_ (below_step (by repeat (first | (with_reducible first | exact HB.out | apply ba_ | apply bn_ | apply b1_) | exact HB.out)) hb); clear HO412; clear HO420; clear HB; have HO412 := n0_; have HO420 := n1_; have HB := n2_; clear n0_ n1_ n2_; (try clear hb); (try clear hb2); (try clear hk); (try clear hi)) | ((with_reducible refine gate_callee (f := 60) rfl ?_); refine goesL_ (some 92) rfl rfl Try.func60 (by kernel_rfl) rfl #[.slice A1 l1.length c1] rfl (by (try simp only [List.map_toArray, List.map_cons, List.map_nil]); first | done | rfl | (simp only [List.length_drop, List.length_take]; rfl)) ?_; (with_reducible refine (spec_DrawTimeBetween.calls k _ _ l1 t425 t426 t427 _ ?side1 ?side2 A10.out).mono ?_); (case side1 => repeat (first | exact (Kd.C_below HR1.out HB.out) | (with_reducible refine Kd.C_alloc ?_ _) | (with_reducible refine Kd.C_drewN ?_ _) | (with_reducible refine Kd.C_drew ?_))); (case side2 => exact HC1.out); rintro e w25 ⟨v428, rfl, ho0, hb⟩; refine ⟨_, rfl, ?_⟩; have n0_ := M_ (Kd.R_elder' (by (with_reducible repeat (first | apply ra_ | apply rn_ | apply rd_)); exact HO412.out) (Kd.R_base ho0) hb); have n1_ := M_ (Kd.R_elder' (by (with_reducible repeat (first | apply ra_ | apply rn_ | apply rd_)); exact HO420.out) (Kd.R_base ho0) hb); have n2_ := M_ (Kd.R_lower (Kd.R_new' (Kd.R_new' ho0 (Kd.R_lt (by (with_reducible repeat (first | apply ra_ | apply rn_ | apply rd_)); exact HO412.out))) (Kd.R_lt (by (with_reducible repeat (first | apply ra_ | apply rn_ | apply rd_)); exact HO420.out))) (below_size (by repeat (first | (with_reducible first | exact HB.out | apply ba_ | apply bn_ | apply b1_) | exact HB.out)))); have n3_ := M_ (below_step (by repeat (first | (with_reducible first | exact HB.out | apply ba_ | apply bn_ | apply b1_) | exact HB.out)) hb); clear HO412; clear HO420; clear HB; have HO412 := n0_; have HO420 := n1_; have HO429 := n2_; have HB := n3_; clear n0_ n1_ n2_ n3_; (try clear hb); (try clear hb2); (try clear hk); (try clear hi); (try clear ho0); obtain ⟨Ao26, co26, eo26⟩ := Kd.R_slice HO429.out; subst eo26) | ((with_reducible refine gate_callee (f := 61) rfl ?_); refine goesL_ (some 100) rfl rfl Try.func61 (by kernel_rfl) rfl #[.slice Ao26 t425.length co26, .int .i64 t426, .int .i64 t427] rfl (by (try simp only [List.map_toArray, List.map_cons, List.map_nil]); first | done | rfl | (simp only [List.length_drop, List.length_take]; rfl)) ?_; (with_reducible refine (impl_TimeBetween.calls k _ _ t425 t426 t427 t430 t431 _ ?side1 ?side2 A11.out).mono ?_); (case side1 => repeat (first | exact (Kd.R_reads' HO429.out).2.2 | (with_reducible refine Kd.C_alloc ?_ _) | (with_reducible refine Kd.C_drewN ?_ _) | (with_reducible refine Kd.C_drew ?_))); (case side2 => exact (Kd.R_reads' HO429.out).2.1); rintro e w27 ⟨rfl, hb⟩; refine ⟨_, rfl, ?_⟩; have n0_ := M_ (rb_ (by (with_reducible repeat (first | apply ra_ | apply rn_ | apply rd_)); exact HO412.out) hb); have n1_ := M_ (rb_ (by (with_reducible repeat (first | apply ra_ | apply rn_ | apply rd_)); exact HO420.out) hb); have n2_ := M_ (rb_ (by (with_reducible repeat (first | apply ra_ | apply rn_ | apply rd_)); exact HO429.out) hb); have n3_ := M_ (below_step (by repeat (first | (with_reducible first | exact HB.out | apply ba_ | apply bn_ | apply b1_) | exact HB.out)) hb); clear HO412; clear HO420; clear HO429; clear HB; have HO412 := n0_; have HO420 := n1_; have HO429 := n2_; have HB := n3_; clear n0_ n1_ n2_ n3_; (try clear hb); (try clear hb2); (try clear hk); (try clear hi)) | ((with_reducible refine gate_callee (f := 62) rfl ?_); refine goesL_ (some 107) rfl rfl Try.func62 (by kernel_rfl) rfl #[.slice Ao26 t425.length co26, .int .i64 t426, .int .i64 t427] rfl (by (try simp only [List.map_toArray, List.map_cons, List.map_nil]); first | done | rfl | (simp only [List.length_drop, List.length_take]; rfl)) ?_; (with_reducible refine (spec_TimeBetween.calls k _ _ t425 t426 t427 t432 t433 _ ?side1 ?side2 A12.out).mono ?_); (case side1 => repeat (first | exact (Kd.R_reads' HO429.out).2.2 | (with_reducible refine Kd.C_alloc ?_ _) | (with_reducible refine Kd.C_drewN ?_ _) | (with_reducible refine Kd.C_drew ?_))); (case side2 => exact (Kd.R_reads' HO429.out).2.1); rintro e w28 ⟨rfl, hb⟩; refine ⟨_, rfl, ?_⟩; have n0_ := M_ (rb_ (by (with_reducible repeat (first | apply ra_ | apply rn_ | apply rd_)); exact HO412.out) hb); have n1_ := M_ (rb_ (by (with_reducible repeat (first | apply ra_ | apply rn_ | apply rd_)); exact HO420.out) hb); have n2_ := M_ (rb_ (by (with_reducible repeat (first | apply ra_ | apply rn_ | apply rd_)); exact HO429.out) hb); have n3_ := M_ (below_step (by repeat (first | (with_reducible first | exact HB.out | apply ba_ | apply bn_ | apply b1_) | exact HB.out)) hb); clear HO412; clear HO420; clear HO429; clear HB; have HO412 := n0_; have HO420 := n1_; have HO429 := n2_; have HB := n3_; clear n0_ n1_ n2_ n3_; (try clear hb); (try clear hb2); (try clear hk); (try clear hi)) | ((with_reducible refine gate_callee (f := 63) rfl ?_); refine goesL_ (some 112) rfl rfl Try.func63 (by kernel_rfl) rfl #[.slice A1 l1.length c1] rfl (by (try simp only [List.map_toArray, List.map_cons, List.map_nil]); first | done | rfl | (simp only [List.length_drop, List.length_take]; rfl)) ?_; (with_reducible refine (spec_DrawAddTempo.calls k _ _ l1 t434 t437 t438 _ ?side1 ?side2 A13.out).mono ?_); (case side1 => repeat (first | exact (Kd.C_below HR1.out HB.out) | (with_reducible refine Kd.C_alloc ?_ _) | (with_reducible refine Kd.C_drewN ?_ _) | (with_reducible refine Kd.C_drew ?_))); (case side2 => exact HC1.out); rintro e w29 ⟨v435, rfl, ho0, hb⟩; refine ⟨_, rfl, ?_⟩; have n0_ := M_ (Kd.R_elder' (by (with_reducible repeat (first | apply ra_ | apply rn_ | apply rd_)); exact HO412.out) (Kd.R_base ho0) hb); have n1_ := M_ (Kd.R_elder' (by (with_reducible repeat (first | apply ra_ | apply rn_ | apply rd_)); exact HO420.out) (Kd.R_base ho0) hb); have n2_ := M_ (Kd.R_elder' (by (with_reducible repeat (first | apply ra_ | apply rn_ | apply rd_)); exact HO429.out) (Kd.R_base ho0) hb); have n3_ := M_ (Kd.R_lower (Kd.R_new' (Kd.R_new' (Kd.R_new' ho0 (Kd.R_lt (by (with_reducible repeat (first | apply ra_ | apply rn_ | apply rd_)); exact HO412.out))) (Kd.R_lt (by (with_reducible repeat (first | apply ra_ | apply rn_ | apply rd_)); exact HO420.out))) (Kd.R_lt (by (with_reducible repeat (first | apply ra_ | apply rn_ | apply rd_)); exact HO429.out))) (below_size (by repeat (first | (with_reducible first | exact HB.out | apply ba_ | apply bn_ | apply b1_) | exact HB.out)))); have n4_ := M_ (below_step (by repeat (first | (with_reducible first | exact HB.out | apply ba_ | apply bn_ | apply b1_) | exact HB.out)) hb); clear HO412; clear HO420; clear HO429; clear HB; have HO412 := n0_; have HO420 := n1_; have HO429 := n2_; have HO436 := n3_; have HB := n4_; clear n0_ n1_ n2_ n3_ n4_; (try clear hb); (try clear hb2); (try clear hk); (try clear hi); (try clear ho0)) | ((with_reducible refine gate_dst (N := 25) rfl ?_); refine box_event ?hg (N := 25) ?hd (cs := #[.int .i64 0, .int .i64 0]) (t := 48) ?hr ?_; (case hd => rfl); (case hg => rfl); (case hr => first | (go_simp; done) | (go_simp; rfl)); intro gb439 hg w30 hbox hb; have n0_ := M_ (rb_ (Kd.R_elderB (by (with_reducible repeat (first | apply ra_ | apply rn_ | apply rd_)); exact HO412.out) gb439 (Nat.le_of_eq hg.symm)) hb); have n1_ := M_ (rb_ (Kd.R_elderB (by (with_reducible repeat (first | apply ra_ | apply rn_ | apply rd_)); exact HO420.out) gb439 (Nat.le_of_eq hg.symm)) hb); have n2_ := M_ (rb_ (Kd.R_elderB (by (with_reducible repeat (first | apply ra_ | apply rn_ | apply rd_)); exact HO429.out) gb439 (Nat.le_of_eq hg.symm)) hb); have n3_ := M_ (rb_ (Kd.R_elderB (by (with_reducible repeat (first | apply ra_ | apply rn_ | apply rd_)); exact HO436.out) gb439 (Nat.le_of_eq hg.symm)) hb); have n4_ := M_ (below_step (by repeat (first | (with_reducible first | exact HB.out | apply ba_ | apply bn_ | apply b1_) | exact HB.out)) hb); have n5_ := M_ (hbox); have n6_ := M_ ((by rw [hg]; exact (below_size (by repeat (first | (with_reducible first | exact HB.out | apply ba_ | apply bn_ | apply b1_) | exact HB.out))) : w.heap.size ≤ gb439)); have n7_ := M_ ((by rw [hg]; exact (below_size (by repeat (first | (with_reducible first | exact HB.out | apply ba_ | apply bn_ | apply b1_) | exact HB.out))) : w.heap.size ≤ gb439)); clear HO412; clear HO420; clear HO429; clear HO436; clear HB; have HO412 := n0_; have HO420 := n1_; have HO429 := n2_; have HO436 := n3_; have HB := n4_; have BK439 := n5_; have GW439 := n6_; have GE439 := n7_; clear n0_ n1_ n2_ n3_ n4_ n5_ n6_ n7_; clear hb hbox hg; have hcz31_0 : w30.cell? ⟨gb439, 0, none⟩ = some (.int .i64 0) := (blk_cell BK439.out 0).trans rfl; have hcz31_1 : w30.cell? ⟨gb439, 1, none⟩ = some (.int .i64 0) := (blk_cell BK439.out 1).trans rfl; have hfz31_0 := blk_frozen BK439.out 0; have hfz31_1 := blk_frozen BK439.out 1; obtain ⟨Ao32, co32, eo32⟩ := Kd.R_slice HO436.out; subst eo32) | ((with_reducible refine gate_callee (f := 31) rfl ?_); refine goesL_ (some 118) rfl rfl Try.func31 (by kernel_rfl) rfl #[.slice Ao32 t434.length co32, .agg #[.int .i64 t437, .int .i64 t438]] rfl (by (try simp only [List.map_toArray, List.map_cons, List.map_nil]); first | done | rfl | (simp only [List.length_drop, List.length_take]; rfl)) ?_; (with_reducible refine (impl_AddTempo.calls k _ _ t434 t437 t438 t440 t443 _ ?side1 ?side2 A14.out).mono ?_); (case side1 => refine (Kd.R_reads' (e := 48) (base := w.heap.size) (ok := fun k_ => ((((True ∧ some k_ ≠ (.slice Ao18 t409.length co18 : Value).ownBlock) ∧ some k_ ≠ (.slice Ao22 t417.length co22 : Value).ownBlock) ∧ some k_ ≠ (.slice Ao26 t425.length co26 : Value).ownBlock) ∧ k_ ≠ gb439)) (n := t434.length) (c := co32) ?_).2.2; exact (by (with_reducible repeat (first | apply ra_ | apply rn_ | apply rd_)); exact (rm_ (Kd.R_far (p := ⟨gb439, 1, none⟩) (Kd.R_far (p := ⟨gb439, 0, none⟩) (rm_ HO436.out (fun k_ hk => (⟨hk, hk.2⟩ : _ ∧ k_ ≠ gb439))) (fun _ hk => hk.2) (.int .i64 t437)) (fun _ hk => hk.2) (.int .i64 t438)) (fun _ h_ => h_.1)))); (case side2 => exact (Kd.R_reads' HO436.out).2.1); rintro e w33 ⟨v441, rfl, ho0, hb⟩; refine ⟨_, rfl, ?_⟩; have n0_ := M_ (Kd.R_elder' (by (with_reducible repeat (first | apply ra_ | apply rn_ | apply rd_)); exact (rm_ (Kd.R_far (p := ⟨gb439, 1, none⟩) (Kd.R_far (p := ⟨gb439, 0, none⟩) (rm_ HO412.out (fun k_ hk => (⟨hk, hk.2⟩ : _ ∧ k_ ≠ gb439))) (fun _ hk => hk.2) (.int .i64 t437)) (fun _ hk => hk.2) (.int .i64 t438)) (fun _ h_ => h_.1))) (Kd.R_base ho0) hb); have n1_ := M_ (Kd.R_elder' (by (with_reducible repeat (first | apply ra_ | apply rn_ | apply rd_)); exact (rm_ (Kd.R_far (p := ⟨gb439, 1, none⟩) (Kd.R_far (p := ⟨gb439, 0, none⟩) (rm_ HO420.out (fun k_ hk => (⟨hk, hk.2⟩ : _ ∧ k_ ≠ gb439))) (fun _ hk => hk.2) (.int .i64 t437)) (fun _ hk => hk.2) (.int .i64 t438)) (fun _ h_ => h_.1))) (Kd.R_base ho0) hb); have n2_ := M_ (Kd.R_elder' (by (with_reducible repeat (first | apply ra_ | apply rn_ | apply rd_)); exact (rm_ (Kd.R_far (p := ⟨gb439, 1, none⟩) (Kd.R_far (p := ⟨gb439, 0, none⟩) (rm_ HO429.out (fun k_ hk => (⟨hk, hk.2⟩ : _ ∧ k_ ≠ gb439))) (fun _ hk => hk.2) (.int .i64 t437)) (fun _ hk => hk.2) (.int .i64 t438)) (fun _ h_ => h_.1))) (Kd.R_base ho0) hb); have n3_ := M_ (Kd.R_elder' (by (with_reducible repeat (first | apply ra_ | apply rn_ | apply rd_)); exact (rm_ (Kd.R_far (p := ⟨gb439, 1, none⟩) (Kd.R_far (p := ⟨gb439, 0, none⟩) (rm_ HO436.out (fun k_ hk => (⟨hk, hk.2⟩ : _ ∧ k_ ≠ gb439))) (fun _ hk => hk.2) (.int .i64 t437)) (fun _ hk => hk.2) (.int .i64 t438)) (fun _ h_ => h_.1))) (Kd.R_base ho0) hb); have n4_ := M_ (Kd.R_lower (Kd.R_newB (Kd.R_new' (Kd.R_new' (Kd.R_new' (Kd.R_new' ho0 (Kd.R_lt (by (with_reducible repeat (first | apply ra_ | apply rn_ | apply rd_)); exact (rm_ (Kd.R_far (p := ⟨gb439, 1, none⟩) (Kd.R_far (p := ⟨gb439, 0, none⟩) (rm_ HO412.out (fun k_ hk => (⟨hk, hk.2⟩ : _ ∧ k_ ≠ gb439))) (fun _ hk => hk.2) (.int .i64 t437)) (fun _ hk => hk.2) (.int .i64 t438)) (fun _ h_ => h_.1))))) (Kd.R_lt (by (with_reducible repeat (first | apply ra_ | apply rn_ | apply rd_)); exact (rm_ (Kd.R_far (p := ⟨gb439, 1, none⟩) (Kd.R_far (p := ⟨gb439, 0, none⟩) (rm_ HO420.out (fun k_ hk => (⟨hk, hk.2⟩ : _ ∧ k_ ≠ gb439))) (fun _ hk => hk.2) (.int .i64 t437)) (fun _ hk => hk.2) (.int .i64 t438)) (fun _ h_ => h_.1))))) (Kd.R_lt (by (with_reducible repeat (first | apply ra_ | apply rn_ | apply rd_)); exact (rm_ (Kd.R_far (p := ⟨gb439, 1, none⟩) (Kd.R_far (p := ⟨gb439, 0, none⟩) (rm_ HO429.out (fun k_ hk => (⟨hk, hk.2⟩ : _ ∧ k_ ≠ gb439))) (fun _ hk => hk.2) (.int .i64 t437)) (fun _ hk => hk.2) (.int .i64 t438)) (fun _ h_ => h_.1))))) (Kd.R_lt (by (with_reducible repeat (first | apply ra_ | apply rn_ | apply rd_)); exact (rm_ (Kd.R_far (p := ⟨gb439, 1, none⟩) (Kd.R_far (p := ⟨gb439, 0, none⟩) (rm_ HO436.out (fun k_ hk => (⟨hk, hk.2⟩ : _ ∧ k_ ≠ gb439))) (fun _ hk => hk.2) (.int .i64 t437)) (fun _ hk => hk.2) (.int .i64 t438)) (fun _ h_ => h_.1))))) (g := gb439) (o := .cells #[.int .i64 t437, .int .i64 t438] 48 (0, 0)) (by (with_reducible repeat (first | refine kn_ ?_ _ | refine kd_ ?_ | refine ka_ ?_ _)); refine blk_put (cs := #[.int .i64 t437, .int .i64 0]) ?_ 1 _ rfl; (with_reducible repeat (first | refine kn_ ?_ _ | refine kd_ ?_ | refine ka_ ?_ _)); refine blk_put (cs := #[.int .i64 0, .int .i64 0]) ?_ 0 _ rfl; (with_reducible repeat (first | refine kn_ ?_ _ | refine kd_ ?_ | refine ka_ ?_ _)); exact BK439.out)) (below_size (by repeat (first | (with_reducible first | exact HB.out | apply ba_ | apply bn_ | apply b1_ | refine bs_ ?_ GE439.out) | exact HB.out)))); have n5_ := M_ (blk_below (g := gb439) (o := .cells #[.int .i64 t437, .int .i64 t438] 48 (0, 0)) (by (with_reducible repeat (first | refine kn_ ?_ _ | refine kd_ ?_ | refine ka_ ?_ _)); refine blk_put (cs := #[.int .i64 t437, .int .i64 0]) ?_ 1 _ rfl; (with_reducible repeat (first | refine kn_ ?_ _ | refine kd_ ?_ | refine ka_ ?_ _)); refine blk_put (cs := #[.int .i64 0, .int .i64 0]) ?_ 0 _ rfl; (with_reducible repeat (first | refine kn_ ?_ _ | refine kd_ ?_ | refine ka_ ?_ _)); exact BK439.out) hb); have n6_ := M_ (below_step (by repeat (first | (with_reducible first | exact HB.out | apply ba_ | apply bn_ | apply b1_ | refine bs_ ?_ GE439.out) | exact HB.out)) hb); clear HO412; clear HO420; clear HO429; clear HO436; clear BK439; clear HB; have HO412 := n0_; have HO420 := n1_; have HO429 := n2_; have HO436 := n3_; have HO442 := n4_; have BK439 := n5_; have HB := n6_; clear n0_ n1_ n2_ n3_ n4_ n5_ n6_; (try clear hb); (try clear hb2); (try clear hk); (try clear hi); (try clear ho0); have hcz34_0 : w33.cell? ⟨gb439, 0, none⟩ = some (.int .i64 t437) := (blk_cell BK439.out 0).trans rfl; have hcz34_1 : w33.cell? ⟨gb439, 1, none⟩ = some (.int .i64 t438) := (blk_cell BK439.out 1).trans rfl; have hfz34_0 := blk_frozen BK439.out 0; have hfz34_1 := blk_frozen BK439.out 1) | ((with_reducible refine gate_callee (f := 28) rfl ?_); refine goesL_ (some 124) rfl rfl Try.func28 (by kernel_rfl) rfl #[.slice Ao32 t434.length co32, .agg #[.int .i64 t437, .int .i64 t438]] rfl (by (try simp only [List.map_toArray, List.map_cons, List.map_nil]); first | done | rfl | (simp only [List.length_drop, List.length_take]; rfl)) ?_; (with_reducible refine (spec_AddTempo.calls k _ _ t434 t437 t438 t444 t447 _ ?side1 ?side2 A15.out).mono ?_); (case side1 => repeat (first | exact (Kd.R_reads' HO436.out).2.2 | (with_reducible refine Kd.C_alloc ?_ _) | (with_reducible refine Kd.C_drewN ?_ _) | (with_reducible refine Kd.C_drew ?_))); (case side2 => exact (Kd.R_reads' HO436.out).2.1); rintro e w35 ⟨v445, rfl, ho0, hb⟩; refine ⟨_, rfl, ?_⟩; have n0_ := M_ (Kd.R_elder' (by (with_reducible repeat (first | apply ra_ | apply rn_ | apply rd_)); exact HO412.out) (Kd.R_base ho0) hb); have n1_ := M_ (Kd.R_elder' (by (with_reducible repeat (first | apply ra_ | apply rn_ | apply rd_)); exact HO420.out) (Kd.R_base ho0) hb); have n2_ := M_ (Kd.R_elder' (by (with_reducible repeat (first | apply ra_ | apply rn_ | apply rd_)); exact HO429.out) (Kd.R_base ho0) hb); have n3_ := M_ (Kd.R_elder' (by (with_reducible repeat (first | apply ra_ | apply rn_ | apply rd_)); exact HO436.out) (Kd.R_base ho0) hb); have n4_ := M_ (Kd.R_elder' (by (with_reducible repeat (first | apply ra_ | apply rn_ | apply rd_)); exact HO442.out) (Kd.R_base ho0) hb); have n5_ := M_ (Kd.R_lower (Kd.R_newB (Kd.R_new' (Kd.R_new' (Kd.R_new' (Kd.R_new' (Kd.R_new' ho0 (Kd.R_lt (by (with_reducible repeat (first | apply ra_ | apply rn_ | apply rd_)); exact HO412.out))) (Kd.R_lt (by (with_reducible repeat (first | apply ra_ | apply rn_ | apply rd_)); exact HO420.out))) (Kd.R_lt (by (with_reducible repeat (first | apply ra_ | apply rn_ | apply rd_)); exact HO429.out))) (Kd.R_lt (by (with_reducible repeat (first | apply ra_ | apply rn_ | apply rd_)); exact HO436.out))) (Kd.R_lt (by (with_reducible repeat (first | apply ra_ | apply rn_ | apply rd_)); exact HO442.out))) (g := gb439) (o := .cells #[.int .i64 t437, .int .i64 t438] 48 (0, 0)) (by (with_reducible repeat (first | refine kn_ ?_ _ | refine kd_ ?_ | refine ka_ ?_ _)); exact BK439.out)) (below_size (by repeat (first | (with_reducible first | exact HB.out | apply ba_ | apply bn_ | apply b1_ | refine bs_ ?_ GE439.out) | exact HB.out)))); have n6_ := M_ (blk_below (g := gb439) (o := .cells #[.int .i64 t437, .int .i64 t438] 48 (0, 0)) (by (with_reducible repeat (first | refine kn_ ?_ _ | refine kd_ ?_ | refine ka_ ?_ _)); exact BK439.out) hb); have n7_ := M_ (below_step (by repeat (first | (with_reducible first | exact HB.out | apply ba_ | apply bn_ | apply b1_ | refine bs_ ?_ GE439.out) | exact HB.out)) hb); clear HO412; clear HO420; clear HO429; clear HO436; clear HO442; clear BK439; clear HB; have HO412 := n0_; have HO420 := n1_; have HO429 := n2_; have HO436 := n3_; have HO442 := n4_; have HO446 := n5_; have BK439 := n6_; have HB := n7_; clear n0_ n1_ n2_ n3_ n4_ n5_ n6_ n7_; (try clear hb); (try clear hb2); (try clear hk); (try clear hi); (try clear ho0)))
  (try simp only [Act.put, la_, lb_, lc_])
  go_cut [165] (fun v165 wc => ∃ (kq : Nat) (x165_15 : Bool), v165 = .bool x165_15 ∧ Aside0 (laws_FnTempos.j0 kq t409 t410 t414 t415 t417 t418 t422 t423 t425 t426 t427 t431 t432 t440 t443 x165_15 t437 t438 = some r) ∧ Aside0 (kq ≤ k) ∧ Aside0 (Kd.R k48 48 wc w.heap.size (fun k_ => some k_ ≠ ((.slice Ao22 t417.length co22) : Value).ownBlock ∧ some k_ ≠ ((.slice Ao26 t425.length co26) : Value).ownBlock ∧ some k_ ≠ (v441 : Value).ownBlock ∧ k_ ≠ gb439) (.slice Ao18 t409.length co18) t409) ∧ Aside0 (Kd.R k48 48 wc w.heap.size (fun k_ => some k_ ≠ ((.slice Ao18 t409.length co18) : Value).ownBlock ∧ some k_ ≠ ((.slice Ao26 t425.length co26) : Value).ownBlock ∧ some k_ ≠ (v441 : Value).ownBlock ∧ k_ ≠ gb439) (.slice Ao22 t417.length co22) t417) ∧ Aside0 (Kd.R k48 48 wc w.heap.size (fun k_ => some k_ ≠ ((.slice Ao18 t409.length co18) : Value).ownBlock ∧ some k_ ≠ ((.slice Ao22 t417.length co22) : Value).ownBlock ∧ some k_ ≠ (v441 : Value).ownBlock ∧ k_ ≠ gb439) (.slice Ao26 t425.length co26) t425) ∧ Aside0 (Kd.R k48 48 wc w.heap.size (fun k_ => some k_ ≠ ((.slice Ao18 t409.length co18) : Value).ownBlock ∧ some k_ ≠ ((.slice Ao22 t417.length co22) : Value).ownBlock ∧ some k_ ≠ ((.slice Ao26 t425.length co26) : Value).ownBlock ∧ k_ ≠ gb439) v441 t440) ∧ Aside0 (wc.heap[gb439]? = some (.cells #[.int .i64 t437, .int .i64 t438] 48 (0, 0))) ∧ Aside0 (Below w.heap.size w wc))
  case first => as_aux_lemma =>
   have H := HC16.out
   clear HC16
   by_cases c36 : (t414 != t416) = true
   ·rw [if_pos c36] at H
    have c36b0 : (t414 != t416) = true := c36
    (try (have c36b1 : decide (t414 = t416) = false := by simpa using c36))
    (try (have c36b2 : (t414 == t416) = false := by simpa using c36))
    (try (have c36b3 : ¬ (t414 = t416) := by simpa using c36))
    clear c36
    (first | rw [c36b0] | (simp only [i64_w, i32_w]; rw [c36b0]) | skip)
    have H' := M_ H
    clear H
    go_wp2
    go_meet
    case rel => exact ⟨_, (true), (by first | rfl | (simp; done) | (simp [*]; done)), H', ⟨by first | omega | exact Nat.le_refl _⟩, ⟨by (with_reducible repeat (first | apply ra_ | apply rn_ | apply rd_)); exact rm_ HO412.out (fun _ hk => ⟨hk.1.1.1.1.1.2, ⟨hk.1.1.1.1.2, ⟨hk.1.2, hk.1.1.2⟩⟩⟩)⟩, ⟨by (with_reducible repeat (first | apply ra_ | apply rn_ | apply rd_)); exact rm_ HO420.out (fun _ hk => ⟨hk.1.1.1.1.1.2, ⟨hk.1.1.1.1.2, ⟨hk.1.2, hk.1.1.2⟩⟩⟩)⟩, ⟨by (with_reducible repeat (first | apply ra_ | apply rn_ | apply rd_)); exact rm_ HO429.out (fun _ hk => ⟨hk.1.1.1.1.1.2, ⟨hk.1.1.1.1.2, ⟨hk.1.2, hk.1.1.2⟩⟩⟩)⟩, ⟨by (with_reducible repeat (first | apply ra_ | apply rn_ | apply rd_)); exact rm_ HO442.out (fun _ hk => ⟨hk.1.1.1.1.1.2, ⟨hk.1.1.1.1.2, ⟨hk.1.1.1.2, hk.1.2⟩⟩⟩)⟩, ⟨by (with_reducible repeat (first | refine kn_ ?_ _ | refine kd_ ?_ | refine ka_ ?_ _)); exact BK439.out⟩, ⟨by repeat (first | (with_reducible first | exact HB.out | apply ba_ | apply bn_ | apply b1_ | refine bs_ ?_ GE439.out) | exact HB.out)⟩⟩
   ·rw [if_neg c36] at H
    have c36b0 : (t414 != t416) = false := by simpa using c36
    (try (have c36b1 : decide (t414 = t416) = true := by simpa using c36))
    (try (have c36b2 : (t414 == t416) = true := by simpa using c36))
    clear c36
    (first | rw [c36b0] | (simp only [i64_w, i32_w]; rw [c36b0]) | skip)
    by_cases c37 : t413 = t415
    ·rw [if_pos c37] at H
     have c37b0 : (t413 == t415) = true := beq_iff_eq.mpr c37
     have c37b1 : (t413 != t415) = false := bne_eq_false_iff_eq.mpr c37
     clear c37
     by_cases c38 : (t422 != t424) = true
     ·rw [if_pos c38] at H
      have c38b0 : (t422 != t424) = true := c38
      (try (have c38b1 : decide (t422 = t424) = false := by simpa using c38))
      (try (have c38b2 : (t422 == t424) = false := by simpa using c38))
      (try (have c38b3 : ¬ (t422 = t424) := by simpa using c38))
      clear c38
      have H' := M_ H
      clear H
      go_wp2
      go_meet
      case rel => exact ⟨_, (true), (by first | rfl | (simp; done) | (simp [*]; done)), H', ⟨by first | omega | exact Nat.le_refl _⟩, ⟨by (with_reducible repeat (first | apply ra_ | apply rn_ | apply rd_)); exact rm_ HO412.out (fun _ hk => ⟨hk.1.1.1.1.1.2, ⟨hk.1.1.1.1.2, ⟨hk.1.2, hk.1.1.2⟩⟩⟩)⟩, ⟨by (with_reducible repeat (first | apply ra_ | apply rn_ | apply rd_)); exact rm_ HO420.out (fun _ hk => ⟨hk.1.1.1.1.1.2, ⟨hk.1.1.1.1.2, ⟨hk.1.2, hk.1.1.2⟩⟩⟩)⟩, ⟨by (with_reducible repeat (first | apply ra_ | apply rn_ | apply rd_)); exact rm_ HO429.out (fun _ hk => ⟨hk.1.1.1.1.1.2, ⟨hk.1.1.1.1.2, ⟨hk.1.2, hk.1.1.2⟩⟩⟩)⟩, ⟨by (with_reducible repeat (first | apply ra_ | apply rn_ | apply rd_)); exact rm_ HO442.out (fun _ hk => ⟨hk.1.1.1.1.1.2, ⟨hk.1.1.1.1.2, ⟨hk.1.1.1.2, hk.1.2⟩⟩⟩)⟩, ⟨by (with_reducible repeat (first | refine kn_ ?_ _ | refine kd_ ?_ | refine ka_ ?_ _)); exact BK439.out⟩, ⟨by repeat (first | (with_reducible first | exact HB.out | apply ba_ | apply bn_ | apply b1_ | refine bs_ ?_ GE439.out) | exact HB.out)⟩⟩
     ·rw [if_neg c38] at H
      have c38b0 : (t422 != t424) = false := by simpa using c38
      (try (have c38b1 : decide (t422 = t424) = true := by simpa using c38))
      (try (have c38b2 : (t422 == t424) = true := by simpa using c38))
      clear c38
      by_cases c39 : t421 = t423
      ·rw [if_pos c39] at H
       have c39b0 : (t421 == t423) = true := beq_iff_eq.mpr c39
       have c39b1 : (t421 != t423) = false := bne_eq_false_iff_eq.mpr c39
       clear c39
       by_cases c40 : (t431 != t433) = true
       ·rw [if_pos c40] at H
        have c40b0 : (t431 != t433) = true := c40
        (try (have c40b1 : decide (t431 = t433) = false := by simpa using c40))
        (try (have c40b2 : (t431 == t433) = false := by simpa using c40))
        (try (have c40b3 : ¬ (t431 = t433) := by simpa using c40))
        clear c40
        have H' := M_ H
        clear H
        go_wp2
        go_meet
        case rel => exact ⟨_, (true), (by first | rfl | (simp; done) | (simp [*]; done)), H', ⟨by first | omega | exact Nat.le_refl _⟩, ⟨by (with_reducible repeat (first | apply ra_ | apply rn_ | apply rd_)); exact rm_ HO412.out (fun _ hk => ⟨hk.1.1.1.1.1.2, ⟨hk.1.1.1.1.2, ⟨hk.1.2, hk.1.1.2⟩⟩⟩)⟩, ⟨by (with_reducible repeat (first | apply ra_ | apply rn_ | apply rd_)); exact rm_ HO420.out (fun _ hk => ⟨hk.1.1.1.1.1.2, ⟨hk.1.1.1.1.2, ⟨hk.1.2, hk.1.1.2⟩⟩⟩)⟩, ⟨by (with_reducible repeat (first | apply ra_ | apply rn_ | apply rd_)); exact rm_ HO429.out (fun _ hk => ⟨hk.1.1.1.1.1.2, ⟨hk.1.1.1.1.2, ⟨hk.1.2, hk.1.1.2⟩⟩⟩)⟩, ⟨by (with_reducible repeat (first | apply ra_ | apply rn_ | apply rd_)); exact rm_ HO442.out (fun _ hk => ⟨hk.1.1.1.1.1.2, ⟨hk.1.1.1.1.2, ⟨hk.1.1.1.2, hk.1.2⟩⟩⟩)⟩, ⟨by (with_reducible repeat (first | refine kn_ ?_ _ | refine kd_ ?_ | refine ka_ ?_ _)); exact BK439.out⟩, ⟨by repeat (first | (with_reducible first | exact HB.out | apply ba_ | apply bn_ | apply b1_ | refine bs_ ?_ GE439.out) | exact HB.out)⟩⟩
       ·rw [if_neg c40] at H
        have c40b0 : (t431 != t433) = false := by simpa using c40
        (try (have c40b1 : decide (t431 = t433) = true := by simpa using c40))
        (try (have c40b2 : (t431 == t433) = true := by simpa using c40))
        clear c40
        by_cases c41 : t430 = t432
        ·rw [if_pos c41] at H
         have c41b0 : (t430 == t432) = true := beq_iff_eq.mpr c41
         have c41b1 : (t430 != t432) = false := bne_eq_false_iff_eq.mpr c41
         clear c41
         by_cases c42 : (t443 != t447) = true
         ·rw [if_pos c42] at H
          have c42b0 : (t443 != t447) = true := c42
          (try (have c42b1 : decide (t443 = t447) = false := by simpa using c42))
          (try (have c42b2 : (t443 == t447) = false := by simpa using c42))
          (try (have c42b3 : ¬ (t443 = t447) := by simpa using c42))
          clear c42
          have H' := M_ H
          clear H
          go_wp2
          go_meet
          case rel => exact ⟨_, (true), (by first | rfl | (simp; done) | (simp [*]; done)), H', ⟨by first | omega | exact Nat.le_refl _⟩, ⟨by (with_reducible repeat (first | apply ra_ | apply rn_ | apply rd_)); exact rm_ HO412.out (fun _ hk => ⟨hk.1.1.1.1.1.2, ⟨hk.1.1.1.1.2, ⟨hk.1.2, hk.1.1.2⟩⟩⟩)⟩, ⟨by (with_reducible repeat (first | apply ra_ | apply rn_ | apply rd_)); exact rm_ HO420.out (fun _ hk => ⟨hk.1.1.1.1.1.2, ⟨hk.1.1.1.1.2, ⟨hk.1.2, hk.1.1.2⟩⟩⟩)⟩, ⟨by (with_reducible repeat (first | apply ra_ | apply rn_ | apply rd_)); exact rm_ HO429.out (fun _ hk => ⟨hk.1.1.1.1.1.2, ⟨hk.1.1.1.1.2, ⟨hk.1.2, hk.1.1.2⟩⟩⟩)⟩, ⟨by (with_reducible repeat (first | apply ra_ | apply rn_ | apply rd_)); exact rm_ HO442.out (fun _ hk => ⟨hk.1.1.1.1.1.2, ⟨hk.1.1.1.1.2, ⟨hk.1.1.1.2, hk.1.2⟩⟩⟩)⟩, ⟨by (with_reducible repeat (first | refine kn_ ?_ _ | refine kd_ ?_ | refine ka_ ?_ _)); exact BK439.out⟩, ⟨by repeat (first | (with_reducible first | exact HB.out | apply ba_ | apply bn_ | apply b1_ | refine bs_ ?_ GE439.out) | exact HB.out)⟩⟩
         ·rw [if_neg c42] at H
          have c42b0 : (t443 != t447) = false := by simpa using c42
          (try (have c42b1 : decide (t443 = t447) = true := by simpa using c42))
          (try (have c42b2 : (t443 == t447) = true := by simpa using c42))
          clear c42
          replace H := Option.bind_eq_some_iff.mp H
          obtain ⟨t448, A430, H⟩ := H
          replace H : (laws_FnTempos.j0 k t409 t410 t414 t415 t417 t418 t422 t423 t425 t426 t427 t431 t432 t440 t443 (!t448) t437 t438) = some r := H
          have A43 := M_ A430
          clear A430
          have H' := M_ H
          clear H
          obtain ⟨Ao44, co44, eo44⟩ := Kd.R_slice HO442.out
          subst eo44
          obtain ⟨Ao45, co45, eo45⟩ := Kd.R_slice HO446.out
          subst eo45
          go_wp2_with (first | (go_at_call 64; (with_reducible refine (laws_qTempos.calls k _ _ t440 _ _ t444 t448 _ ?side1 ?side2 ?side3 ?side4 A43.out).mono ?_); (case side1 => repeat (first | exact (Kd.R_reads' HO442.out).2.2 | (with_reducible refine Kd.C_alloc ?_ _) | (with_reducible refine Kd.C_drewN ?_ _) | (with_reducible refine Kd.C_drew ?_))); (case side2 => exact (Kd.R_reads' HO442.out).2.1); (case side3 => repeat (first | exact (Kd.R_reads' HO446.out).2.2 | (with_reducible refine Kd.C_alloc ?_ _) | (with_reducible refine Kd.C_drewN ?_ _) | (with_reducible refine Kd.C_drew ?_))); (case side4 => exact (Kd.R_reads' HO446.out).2.1); rintro e w' ⟨rfl, ⟨nd, rfl⟩⟩))
          go_meet
          case rel => exact ⟨_, (!t448), (by first | rfl | (simp; done) | (simp [*]; done)), H', ⟨by first | omega | exact Nat.le_refl _⟩, ⟨by (with_reducible repeat (first | apply ra_ | apply rn_ | apply rd_)); exact rm_ HO412.out (fun _ hk => ⟨hk.1.1.1.1.1.2, ⟨hk.1.1.1.1.2, ⟨hk.1.2, hk.1.1.2⟩⟩⟩)⟩, ⟨by (with_reducible repeat (first | apply ra_ | apply rn_ | apply rd_)); exact rm_ HO420.out (fun _ hk => ⟨hk.1.1.1.1.1.2, ⟨hk.1.1.1.1.2, ⟨hk.1.2, hk.1.1.2⟩⟩⟩)⟩, ⟨by (with_reducible repeat (first | apply ra_ | apply rn_ | apply rd_)); exact rm_ HO429.out (fun _ hk => ⟨hk.1.1.1.1.1.2, ⟨hk.1.1.1.1.2, ⟨hk.1.2, hk.1.1.2⟩⟩⟩)⟩, ⟨by (with_reducible repeat (first | apply ra_ | apply rn_ | apply rd_)); exact rm_ HO442.out (fun _ hk => ⟨hk.1.1.1.1.1.2, ⟨hk.1.1.1.1.2, ⟨hk.1.1.1.2, hk.1.2⟩⟩⟩)⟩, ⟨by (with_reducible repeat (first | refine kn_ ?_ _ | refine kd_ ?_ | refine ka_ ?_ _)); exact BK439.out⟩, ⟨by repeat (first | (with_reducible first | exact HB.out | apply ba_ | apply bn_ | apply b1_ | refine bs_ ?_ GE439.out) | exact HB.out)⟩⟩
        ·rw [if_neg c41] at H
         have c41b0 : (t430 == t432) = false := beq_eq_false_iff_ne.mpr c41
         have c41b1 : (t430 != t432) = true := bne_iff_ne.mpr c41
         have H' := M_ H
         clear H
         go_wp2
         go_meet
         case rel => exact ⟨_, (true), (by first | rfl | (simp; done) | (simp [*]; done)), H', ⟨by first | omega | exact Nat.le_refl _⟩, ⟨by (with_reducible repeat (first | apply ra_ | apply rn_ | apply rd_)); exact rm_ HO412.out (fun _ hk => ⟨hk.1.1.1.1.1.2, ⟨hk.1.1.1.1.2, ⟨hk.1.2, hk.1.1.2⟩⟩⟩)⟩, ⟨by (with_reducible repeat (first | apply ra_ | apply rn_ | apply rd_)); exact rm_ HO420.out (fun _ hk => ⟨hk.1.1.1.1.1.2, ⟨hk.1.1.1.1.2, ⟨hk.1.2, hk.1.1.2⟩⟩⟩)⟩, ⟨by (with_reducible repeat (first | apply ra_ | apply rn_ | apply rd_)); exact rm_ HO429.out (fun _ hk => ⟨hk.1.1.1.1.1.2, ⟨hk.1.1.1.1.2, ⟨hk.1.2, hk.1.1.2⟩⟩⟩)⟩, ⟨by (with_reducible repeat (first | apply ra_ | apply rn_ | apply rd_)); exact rm_ HO442.out (fun _ hk => ⟨hk.1.1.1.1.1.2, ⟨hk.1.1.1.1.2, ⟨hk.1.1.1.2, hk.1.2⟩⟩⟩)⟩, ⟨by (with_reducible repeat (first | refine kn_ ?_ _ | refine kd_ ?_ | refine ka_ ?_ _)); exact BK439.out⟩, ⟨by repeat (first | (with_reducible first | exact HB.out | apply ba_ | apply bn_ | apply b1_ | refine bs_ ?_ GE439.out) | exact HB.out)⟩⟩
      ·rw [if_neg c39] at H
       have c39b0 : (t421 == t423) = false := beq_eq_false_iff_ne.mpr c39
       have c39b1 : (t421 != t423) = true := bne_iff_ne.mpr c39
       have H' := M_ H
       clear H
       go_wp2
       go_meet
       case rel => exact ⟨_, (true), (by first | rfl | (simp; done) | (simp [*]; done)), H', ⟨by first | omega | exact Nat.le_refl _⟩, ⟨by (with_reducible repeat (first | apply ra_ | apply rn_ | apply rd_)); exact rm_ HO412.out (fun _ hk => ⟨hk.1.1.1.1.1.2, ⟨hk.1.1.1.1.2, ⟨hk.1.2, hk.1.1.2⟩⟩⟩)⟩, ⟨by (with_reducible repeat (first | apply ra_ | apply rn_ | apply rd_)); exact rm_ HO420.out (fun _ hk => ⟨hk.1.1.1.1.1.2, ⟨hk.1.1.1.1.2, ⟨hk.1.2, hk.1.1.2⟩⟩⟩)⟩, ⟨by (with_reducible repeat (first | apply ra_ | apply rn_ | apply rd_)); exact rm_ HO429.out (fun _ hk => ⟨hk.1.1.1.1.1.2, ⟨hk.1.1.1.1.2, ⟨hk.1.2, hk.1.1.2⟩⟩⟩)⟩, ⟨by (with_reducible repeat (first | apply ra_ | apply rn_ | apply rd_)); exact rm_ HO442.out (fun _ hk => ⟨hk.1.1.1.1.1.2, ⟨hk.1.1.1.1.2, ⟨hk.1.1.1.2, hk.1.2⟩⟩⟩)⟩, ⟨by (with_reducible repeat (first | refine kn_ ?_ _ | refine kd_ ?_ | refine ka_ ?_ _)); exact BK439.out⟩, ⟨by repeat (first | (with_reducible first | exact HB.out | apply ba_ | apply bn_ | apply b1_ | refine bs_ ?_ GE439.out) | exact HB.out)⟩⟩
    ·rw [if_neg c37] at H
     have c37b0 : (t413 == t415) = false := beq_eq_false_iff_ne.mpr c37
     have c37b1 : (t413 != t415) = true := bne_iff_ne.mpr c37
     have H' := M_ H
     clear H
     go_wp2
     go_meet
     case rel => exact ⟨_, (true), (by first | rfl | (simp; done) | (simp [*]; done)), H', ⟨by first | omega | exact Nat.le_refl _⟩, ⟨by (with_reducible repeat (first | apply ra_ | apply rn_ | apply rd_)); exact rm_ HO412.out (fun _ hk => ⟨hk.1.1.1.1.1.2, ⟨hk.1.1.1.1.2, ⟨hk.1.2, hk.1.1.2⟩⟩⟩)⟩, ⟨by (with_reducible repeat (first | apply ra_ | apply rn_ | apply rd_)); exact rm_ HO420.out (fun _ hk => ⟨hk.1.1.1.1.1.2, ⟨hk.1.1.1.1.2, ⟨hk.1.2, hk.1.1.2⟩⟩⟩)⟩, ⟨by (with_reducible repeat (first | apply ra_ | apply rn_ | apply rd_)); exact rm_ HO429.out (fun _ hk => ⟨hk.1.1.1.1.1.2, ⟨hk.1.1.1.1.2, ⟨hk.1.2, hk.1.1.2⟩⟩⟩)⟩, ⟨by (with_reducible repeat (first | apply ra_ | apply rn_ | apply rd_)); exact rm_ HO442.out (fun _ hk => ⟨hk.1.1.1.1.1.2, ⟨hk.1.1.1.1.2, ⟨hk.1.1.1.2, hk.1.2⟩⟩⟩)⟩, ⟨by (with_reducible repeat (first | refine kn_ ?_ _ | refine kd_ ?_ | refine ka_ ?_ _)); exact BK439.out⟩, ⟨by repeat (first | (with_reducible first | exact HB.out | apply ba_ | apply bn_ | apply b1_ | refine bs_ ?_ GE439.out) | exact HB.out)⟩⟩
  case rest => as_aux_lemma =>
   clear HC16
   try clear c1
   try clear c2
   try clear p2
   try clear c3
   try clear c3b0
   try clear c4
   try clear c5
   try clear c6
   try clear p6
   try clear c12
   try clear c28
   try clear c31
   try clear c36
   try clear c36b0
   try clear c36b1
   try clear c36b2
   try clear c37
   try clear c37b0
   try clear c37b1
   try clear c38
   try clear c38b0
   try clear c38b1
   try clear c38b2
   try clear c39
   try clear c39b0
   try clear c39b1
   try clear c40
   try clear c40b0
   try clear c40b1
   try clear c40b2
   try clear c41
   try clear c41b0
   try clear c41b1
   try clear c42
   try clear c42b0
   try clear c42b1
   try clear c42b2
   try clear hcz31_0
   try clear hcz31_1
   try clear hcz34_0
   try clear hcz34_1
   try clear hfz31_0
   try clear hfz31_1
   try clear hfz34_0
   try clear hfz34_1
   obtain ⟨kq, x165_15, rfl, HA, HJ15, HO_5, HO_11, HO_17, HO_26, BK439, HB⟩ := hcut
   cases kq with
   | zero => exact absurd HA.out (by simp [laws_FnTempos.j0])
   | succ kj15 =>
    have H := HA.out
    clear HA
    simp only [laws_FnTempos.j0] at H
    by_cases c46 : x165_15 = true
    ·subst c46
     have H1 : (some false) = some r := by rw [if_pos rfl] at H; exact H
     clear H
     have H := H1
     clear H1
     obtain rfl := Option.some.inj H
     go_wp2
     go_ret
     exact ⟨by first | rfl | (simp [errW_none, errW_some] <;> rfl) | (simp [*, errW_none, errW_some] <;> rfl), by repeat (first | (with_reducible first | exact HB.out | apply ba_ | apply bn_ | apply b1_ | refine bs_ ?_ GE439.out) | exact HB.out)⟩
    ·replace c46 := Bool.eq_false_iff.mpr c46
     subst c46
     have H1 : (if t422 = true then ((impl_TimeOf.f kj15 t417 t423).bind fun bt449 => ((spec_TimeOf.f kj15 t417 t423).bind fun bt451 => (if bt449.2 = true then (if bt451.2 = true then (if bt449.1 = bt451.1 then (laws_FnTempos.j1 kj15 t409 t410 t414 t415 t417 t418 t423 t425 t426 t427 t431 t432 t440 t443 (decide (bt451.1 > t418)) t437 t438) else (laws_FnTempos.j1 kj15 t409 t410 t414 t415 t417 t418 t423 t425 t426 t427 t431 t432 t440 t443 true t437 t438)) else (laws_FnTempos.j1 kj15 t409 t410 t414 t415 t417 t418 t423 t425 t426 t427 t431 t432 t440 t443 true t437 t438)) else (laws_FnTempos.j1 kj15 t409 t410 t414 t415 t417 t418 t423 t425 t426 t427 t431 t432 t440 t443 true t437 t438)))) else (laws_FnTempos.j2 kj15 t409 t410 t414 t415 t425 t426 t427 t431 t432 t440 t443 t437 t438)) = some r := by rw [if_neg (show ¬ (false = true) by decide)] at H; exact H
     clear H
     have H := H1
     clear H1
     have HC47 := M_ H
     clear H
     go_upto_if 166 with (fail)
     go_cut [] (fun wc => ∃ (kq : Nat), Aside0 (laws_FnTempos.j2 kq t409 t410 t414 t415 t425 t426 t427 t431 t432 t440 t443 t437 t438 = some r) ∧ Aside0 (kq ≤ kj15) ∧ Aside0 (Kd.R k48 48 wc w.heap.size (fun k_ => some k_ ≠ ((.slice Ao26 t425.length co26) : Value).ownBlock ∧ some k_ ≠ (v441 : Value).ownBlock ∧ k_ ≠ gb439) (.slice Ao18 t409.length co18) t409) ∧ Aside0 (Kd.R k48 48 wc w.heap.size (fun k_ => some k_ ≠ ((.slice Ao18 t409.length co18) : Value).ownBlock ∧ some k_ ≠ (v441 : Value).ownBlock ∧ k_ ≠ gb439) (.slice Ao26 t425.length co26) t425) ∧ Aside0 (Kd.R k48 48 wc w.heap.size (fun k_ => some k_ ≠ ((.slice Ao18 t409.length co18) : Value).ownBlock ∧ some k_ ≠ ((.slice Ao26 t425.length co26) : Value).ownBlock ∧ k_ ≠ gb439) v441 t440) ∧ Aside0 (wc.heap[gb439]? = some (.cells #[.int .i64 t437, .int .i64 t438] 48 (0, 0))) ∧ Aside0 (Below w.heap.size w wc))
     case first => as_aux_lemma =>
      have H := HC47.out
      clear HC47
      by_cases c48 : t422 = true
      ·subst c48
       have H1 : ((impl_TimeOf.f kj15 t417 t423).bind fun bt449 => ((spec_TimeOf.f kj15 t417 t423).bind fun bt451 => (if bt449.2 = true then (if bt451.2 = true then (if bt449.1 = bt451.1 then (laws_FnTempos.j1 kj15 t409 t410 t414 t415 t417 t418 t423 t425 t426 t427 t431 t432 t440 t443 (decide (bt451.1 > t418)) t437 t438) else (laws_FnTempos.j1 kj15 t409 t410 t414 t415 t417 t418 t423 t425 t426 t427 t431 t432 t440 t443 true t437 t438)) else (laws_FnTempos.j1 kj15 t409 t410 t414 t415 t417 t418 t423 t425 t426 t427 t431 t432 t440 t443 true t437 t438)) else (laws_FnTempos.j1 kj15 t409 t410 t414 t415 t417 t418 t423 t425 t426 t427 t431 t432 t440 t443 true t437 t438)))) = some r := by rw [if_pos rfl] at H; exact H
       clear H
       have H := H1
       clear H1
       replace H := Option.bind_eq_some_iff.mp H
       obtain ⟨⟨t449, t450⟩, A490, H⟩ := H
       replace H : ((spec_TimeOf.f kj15 t417 t423).bind fun bt451 => (if t450 = true then (if bt451.2 = true then (if t449 = bt451.1 then (laws_FnTempos.j1 kj15 t409 t410 t414 t415 t417 t418 t423 t425 t426 t427 t431 t432 t440 t443 (decide (bt451.1 > t418)) t437 t438) else (laws_FnTempos.j1 kj15 t409 t410 t414 t415 t417 t418 t423 t425 t426 t427 t431 t432 t440 t443 true t437 t438)) else (laws_FnTempos.j1 kj15 t409 t410 t414 t415 t417 t418 t423 t425 t426 t427 t431 t432 t440 t443 true t437 t438)) else (laws_FnTempos.j1 kj15 t409 t410 t414 t415 t417 t418 t423 t425 t426 t427 t431 t432 t440 t443 true t437 t438))) = some r := H
       have A49 := M_ A490
       clear A490
       replace H := Option.bind_eq_some_iff.mp H
       obtain ⟨⟨t451, t452⟩, A500, H⟩ := H
       replace H : (if t450 = true then (if t452 = true then (if t449 = t451 then (laws_FnTempos.j1 kj15 t409 t410 t414 t415 t417 t418 t423 t425 t426 t427 t431 t432 t440 t443 (decide (t451 > t418)) t437 t438) else (laws_FnTempos.j1 kj15 t409 t410 t414 t415 t417 t418 t423 t425 t426 t427 t431 t432 t440 t443 true t437 t438)) else (laws_FnTempos.j1 kj15 t409 t410 t414 t415 t417 t418 t423 t425 t426 t427 t431 t432 t440 t443 true t437 t438)) else (laws_FnTempos.j1 kj15 t409 t410 t414 t415 t417 t418 t423 t425 t426 t427 t431 t432 t440 t443 true t437 t438)) = some r := H
       have A50 := M_ A500
       clear A500
       have HC51 := M_ H
       clear H
       go_upto_region 20 with (first | ((with_reducible refine gate_callee (f := 55) rfl ?_); refine goesL_ (some 170) rfl rfl Try.func55 (by kernel_rfl) rfl #[.slice Ao22 t417.length co22, .int .i64 t423] rfl (by (try simp only [List.map_toArray, List.map_cons, List.map_nil]); first | done | rfl | (simp only [List.length_drop, List.length_take]; rfl)) ?_; (with_reducible refine (impl_TimeOf.calls kj15 _ _ t417 t423 t449 t450 _ ?side1 ?side2 A49.out).mono ?_); (case side1 => repeat (first | exact (Kd.R_reads' HO_11.out).2.2 | (with_reducible refine Kd.C_alloc ?_ _) | (with_reducible refine Kd.C_drewN ?_ _) | (with_reducible refine Kd.C_drew ?_))); (case side2 => exact (Kd.R_reads' HO_11.out).2.1); rintro e w52 ⟨rfl, hb⟩; refine ⟨_, rfl, ?_⟩; have n0_ := M_ (rb_ (by (with_reducible repeat (first | apply ra_ | apply rn_ | apply rd_)); exact HO_5.out) hb); have n1_ := M_ (rb_ (by (with_reducible repeat (first | apply ra_ | apply rn_ | apply rd_)); exact HO_11.out) hb); have n2_ := M_ (rb_ (by (with_reducible repeat (first | apply ra_ | apply rn_ | apply rd_)); exact HO_17.out) hb); have n3_ := M_ (rb_ (by (with_reducible repeat (first | apply ra_ | apply rn_ | apply rd_)); exact HO_26.out) hb); have n4_ := M_ (blk_below (g := gb439) (o := .cells #[.int .i64 t437, .int .i64 t438] 48 (0, 0)) (by (with_reducible repeat (first | refine kn_ ?_ _ | refine kd_ ?_ | refine ka_ ?_ _)); exact BK439.out) hb); have n5_ := M_ (below_step (by repeat (first | (with_reducible first | exact HB.out | apply ba_ | apply bn_ | apply b1_ | refine bs_ ?_ GE439.out) | exact HB.out)) hb); clear HO_5; clear HO_11; clear HO_17; clear HO_26; clear BK439; clear HB; have HO_5 := n0_; have HO_11 := n1_; have HO_17 := n2_; have HO_26 := n3_; have BK439 := n4_; have HB := n5_; clear n0_ n1_ n2_ n3_ n4_ n5_; (try clear hb); (try clear hb2); (try clear hk); (try clear hi)) | ((with_reducible refine gate_callee (f := 56) rfl ?_); refine goesL_ (some 176) rfl rfl Try.func56 (by kernel_rfl) rfl #[.slice Ao22 t417.length co22, .int .i64 t423] rfl (by (try simp only [List.map_toArray, List.map_cons, List.map_nil]); first | done | rfl | (simp only [List.length_drop, List.length_take]; rfl)) ?_; (with_reducible refine (spec_TimeOf.calls kj15 _ _ t417 t423 t451 t452 _ ?side1 ?side2 A50.out).mono ?_); (case side1 => repeat (first | exact (Kd.R_reads' HO_11.out).2.2 | (with_reducible refine Kd.C_alloc ?_ _) | (with_reducible refine Kd.C_drewN ?_ _) | (with_reducible refine Kd.C_drew ?_))); (case side2 => exact (Kd.R_reads' HO_11.out).2.1); rintro e w53 ⟨rfl, hb⟩; refine ⟨_, rfl, ?_⟩; have n0_ := M_ (rb_ (by (with_reducible repeat (first | apply ra_ | apply rn_ | apply rd_)); exact HO_5.out) hb); have n1_ := M_ (rb_ (by (with_reducible repeat (first | apply ra_ | apply rn_ | apply rd_)); exact HO_11.out) hb); have n2_ := M_ (rb_ (by (with_reducible repeat (first | apply ra_ | apply rn_ | apply rd_)); exact HO_17.out) hb); have n3_ := M_ (rb_ (by (with_reducible repeat (first | apply ra_ | apply rn_ | apply rd_)); exact HO_26.out) hb); have n4_ := M_ (blk_below (g := gb439) (o := .cells #[.int .i64 t437, .int .i64 t438] 48 (0, 0)) (by (with_reducible repeat (first | refine kn_ ?_ _ | refine kd_ ?_ | refine ka_ ?_ _)); exact BK439.out) hb); have n5_ := M_ (below_step (by repeat (first | (with_reducible first | exact HB.out | apply ba_ | apply bn_ | apply b1_ | refine bs_ ?_ GE439.out) | exact HB.out)) hb); clear HO_5; clear HO_11; clear HO_17; clear HO_26; clear BK439; clear HB; have HO_5 := n0_; have HO_11 := n1_; have HO_17 := n2_; have HO_26 := n3_; have BK439 := n4_; have HB := n5_; clear n0_ n1_ n2_ n3_ n4_ n5_; (try clear hb); (try clear hb2); (try clear hk); (try clear hi)))
       (try simp only [Act.put, la_, lb_, lc_])
       go_cut [194] (fun v194 wc => ∃ (kq : Nat) (x194_50 : Bool), v194 = .bool x194_50 ∧ Aside0 (laws_FnTempos.j1 kq t409 t410 t414 t415 t417 t418 t423 t425 t426 t427 t431 t432 t440 t443 x194_50 t437 t438 = some r) ∧ Aside0 (kq ≤ kj15) ∧ Aside0 (Kd.R k48 48 wc w.heap.size (fun k_ => some k_ ≠ ((.slice Ao22 t417.length co22) : Value).ownBlock ∧ some k_ ≠ ((.slice Ao26 t425.length co26) : Value).ownBlock ∧ some k_ ≠ (v441 : Value).ownBlock ∧ k_ ≠ gb439) (.slice Ao18 t409.length co18) t409) ∧ Aside0 (Kd.R k48 48 wc w.heap.size (fun k_ => some k_ ≠ ((.slice Ao18 t409.length co18) : Value).ownBlock ∧ some k_ ≠ ((.slice Ao26 t425.length co26) : Value).ownBlock ∧ some k_ ≠ (v441 : Value).ownBlock ∧ k_ ≠ gb439) (.slice Ao22 t417.length co22) t417) ∧ Aside0 (Kd.R k48 48 wc w.heap.size (fun k_ => some k_ ≠ ((.slice Ao18 t409.length co18) : Value).ownBlock ∧ some k_ ≠ ((.slice Ao22 t417.length co22) : Value).ownBlock ∧ some k_ ≠ (v441 : Value).ownBlock ∧ k_ ≠ gb439) (.slice Ao26 t425.length co26) t425) ∧ Aside0 (Kd.R k48 48 wc w.heap.size (fun k_ => some k_ ≠ ((.slice Ao18 t409.length co18) : Value).ownBlock ∧ some k_ ≠ ((.slice Ao22 t417.length co22) : Value).ownBlock ∧ some k_ ≠ ((.slice Ao26 t425.length co26) : Value).ownBlock ∧ k_ ≠ gb439) v441 t440) ∧ Aside0 (wc.heap[gb439]? = some (.cells #[.int .i64 t437, .int .i64 t438] 48 (0, 0))) ∧ Aside0 (Below w.heap.size w wc))
       case first => as_aux_lemma =>
        have H := HC51.out
        clear HC51
        by_cases c54 : t450 = true
        ·subst c54
         have H1 : (if t452 = true then (if t449 = t451 then (laws_FnTempos.j1 kj15 t409 t410 t414 t415 t417 t418 t423 t425 t426 t427 t431 t432 t440 t443 (decide (t451 > t418)) t437 t438) else (laws_FnTempos.j1 kj15 t409 t410 t414 t415 t417 t418 t423 t425 t426 t427 t431 t432 t440 t443 true t437 t438)) else (laws_FnTempos.j1 kj15 t409 t410 t414 t415 t417 t418 t423 t425 t426 t427 t431 t432 t440 t443 true t437 t438)) = some r := by rw [if_pos rfl] at H; exact H
         clear H
         have H := H1
         clear H1
         by_cases c55 : t452 = true
         ·subst c55
          have H1 : (if t449 = t451 then (laws_FnTempos.j1 kj15 t409 t410 t414 t415 t417 t418 t423 t425 t426 t427 t431 t432 t440 t443 (decide (t451 > t418)) t437 t438) else (laws_FnTempos.j1 kj15 t409 t410 t414 t415 t417 t418 t423 t425 t426 t427 t431 t432 t440 t443 true t437 t438)) = some r := by rw [if_pos rfl] at H; exact H
          clear H
          have H := H1
          clear H1
          by_cases c56 : t449 = t451
          ·rw [if_pos c56] at H
           have c56b0 : (t449 == t451) = true := beq_iff_eq.mpr c56
           have c56b1 : (t449 != t451) = false := bne_eq_false_iff_eq.mpr c56
           clear c56
           (first | rw [c56b0] | (simp only [i64_w, i32_w]; rw [c56b0]) | skip)
           have H' := M_ H
           clear H
           go_wp2
           go_meet
           case rel => exact ⟨_, (decide (t451 > t418)), (by first | rfl | (simp; done) | (simp [*]; done)), H', ⟨by have := HJ15.out; first | omega | exact Nat.le_refl _⟩, ⟨by (with_reducible repeat (first | apply ra_ | apply rn_ | apply rd_)); exact HO_5.out⟩, ⟨by (with_reducible repeat (first | apply ra_ | apply rn_ | apply rd_)); exact HO_11.out⟩, ⟨by (with_reducible repeat (first | apply ra_ | apply rn_ | apply rd_)); exact HO_17.out⟩, ⟨by (with_reducible repeat (first | apply ra_ | apply rn_ | apply rd_)); exact HO_26.out⟩, ⟨by (with_reducible repeat (first | refine kn_ ?_ _ | refine kd_ ?_ | refine ka_ ?_ _)); exact BK439.out⟩, ⟨by repeat (first | (with_reducible first | exact HB.out | apply ba_ | apply bn_ | apply b1_ | refine bs_ ?_ GE439.out) | exact HB.out)⟩⟩
          ·rw [if_neg c56] at H
           have c56b0 : (t449 == t451) = false := beq_eq_false_iff_ne.mpr c56
           have c56b1 : (t449 != t451) = true := bne_iff_ne.mpr c56
           (first | rw [c56b0] | (simp only [i64_w, i32_w]; rw [c56b0]) | skip)
           have H' := M_ H
           clear H
           go_wp2
           go_meet
           case rel => exact ⟨_, (true), (by first | rfl | (simp; done) | (simp [*]; done)), H', ⟨by have := HJ15.out; first | omega | exact Nat.le_refl _⟩, ⟨by (with_reducible repeat (first | apply ra_ | apply rn_ | apply rd_)); exact HO_5.out⟩, ⟨by (with_reducible repeat (first | apply ra_ | apply rn_ | apply rd_)); exact HO_11.out⟩, ⟨by (with_reducible repeat (first | apply ra_ | apply rn_ | apply rd_)); exact HO_17.out⟩, ⟨by (with_reducible repeat (first | apply ra_ | apply rn_ | apply rd_)); exact HO_26.out⟩, ⟨by (with_reducible repeat (first | refine kn_ ?_ _ | refine kd_ ?_ | refine ka_ ?_ _)); exact BK439.out⟩, ⟨by repeat (first | (with_reducible first | exact HB.out | apply ba_ | apply bn_ | apply b1_ | refine bs_ ?_ GE439.out) | exact HB.out)⟩⟩
         ·replace c55 := Bool.eq_false_iff.mpr c55
          subst c55
          have H1 : (laws_FnTempos.j1 kj15 t409 t410 t414 t415 t417 t418 t423 t425 t426 t427 t431 t432 t440 t443 true t437 t438) = some r := by rw [if_neg (show ¬ (false = true) by decide)] at H; exact H
          clear H
          have H := H1
          clear H1
          have H' := M_ H
          clear H
          go_wp2
          go_meet
          case rel => exact ⟨_, (true), (by first | rfl | (simp; done) | (simp [*]; done)), H', ⟨by have := HJ15.out; first | omega | exact Nat.le_refl _⟩, ⟨by (with_reducible repeat (first | apply ra_ | apply rn_ | apply rd_)); exact HO_5.out⟩, ⟨by (with_reducible repeat (first | apply ra_ | apply rn_ | apply rd_)); exact HO_11.out⟩, ⟨by (with_reducible repeat (first | apply ra_ | apply rn_ | apply rd_)); exact HO_17.out⟩, ⟨by (with_reducible repeat (first | apply ra_ | apply rn_ | apply rd_)); exact HO_26.out⟩, ⟨by (with_reducible repeat (first | refine kn_ ?_ _ | refine kd_ ?_ | refine ka_ ?_ _)); exact BK439.out⟩, ⟨by repeat (first | (with_reducible first | exact HB.out | apply ba_ | apply bn_ | apply b1_ | refine bs_ ?_ GE439.out) | exact HB.out)⟩⟩
        ·replace c54 := Bool.eq_false_iff.mpr c54
         subst c54
         have H1 : (laws_FnTempos.j1 kj15 t409 t410 t414 t415 t417 t418 t423 t425 t426 t427 t431 t432 t440 t443 true t437 t438) = some r := by rw [if_neg (show ¬ (false = true) by decide)] at H; exact H
         clear H
         have H := H1
         clear H1
         have H' := M_ H
         clear H
         go_wp2
         go_meet
         case rel => exact ⟨_, (true), (by first | rfl | (simp; done) | (simp [*]; done)), H', ⟨by have := HJ15.out; first | omega | exact Nat.le_refl _⟩, ⟨by (with_reducible repeat (first | apply ra_ | apply rn_ | apply rd_)); exact HO_5.out⟩, ⟨by (with_reducible repeat (first | apply ra_ | apply rn_ | apply rd_)); exact HO_11.out⟩, ⟨by (with_reducible repeat (first | apply ra_ | apply rn_ | apply rd_)); exact HO_17.out⟩, ⟨by (with_reducible repeat (first | apply ra_ | apply rn_ | apply rd_)); exact HO_26.out⟩, ⟨by (with_reducible repeat (first | refine kn_ ?_ _ | refine kd_ ?_ | refine ka_ ?_ _)); exact BK439.out⟩, ⟨by repeat (first | (with_reducible first | exact HB.out | apply ba_ | apply bn_ | apply b1_ | refine bs_ ?_ GE439.out) | exact HB.out)⟩⟩
       case rest => as_aux_lemma =>
        clear HC51
        try clear c1
        try clear c2
        try clear p2
        try clear c3
        try clear c3b0
        try clear c4
        try clear c5
        try clear c6
        try clear p6
        try clear c12
        try clear c28
        try clear c31
        try clear c36
        try clear c36b0
        try clear c36b1
        try clear c36b2
        try clear c37
        try clear c37b0
        try clear c37b1
        try clear c38
        try clear c38b0
        try clear c38b1
        try clear c38b2
        try clear c39
        try clear c39b0
        try clear c39b1
        try clear c40
        try clear c40b0
        try clear c40b1
        try clear c40b2
        try clear c41
        try clear c41b0
        try clear c41b1
        try clear c42
        try clear c42b0
        try clear c42b1
        try clear c42b2
        try clear c46
        try clear c48
        try clear c54
        try clear c55
        try clear c56
        try clear c56b0
        try clear c56b1
        try clear hcz31_0
        try clear hcz31_1
        try clear hcz34_0
        try clear hcz34_1
        try clear hfz31_0
        try clear hfz31_1
        try clear hfz34_0
        try clear hfz34_1
        try clear p2
        try clear p6
        obtain ⟨kq, x194_50, rfl, HA, HJ50, HO_5, HO_11, HO_17, HO_26, BK439, HB⟩ := hcut
        cases kq with
        | zero => exact absurd HA.out (by simp [laws_FnTempos.j1])
        | succ kj50 =>
         have H := HA.out
         clear HA
         simp only [laws_FnTempos.j1] at H
         by_cases c57 : x194_50 = true
         ·subst c57
          have H1 : (some false) = some r := by rw [if_pos rfl] at H; exact H
          clear H
          have H := H1
          clear H1
          obtain rfl := Option.some.inj H
          go_wp2
          go_ret
          exact ⟨by first | rfl | (simp [errW_none, errW_some] <;> rfl) | (simp [*, errW_none, errW_some] <;> rfl), by repeat (first | (with_reducible first | exact HB.out | apply ba_ | apply bn_ | apply b1_ | refine bs_ ?_ GE439.out) | exact HB.out)⟩
         ·replace c57 := Bool.eq_false_iff.mpr c57
          subst c57
          have H1 : (if t423 < 2000 then ((impl_TimeOf.f kj50 t417 (wrap64 (t423 + 1))).bind fun bt453 => (if bt453.2 = true then (if bt453.1 ≤ t418 then (some false) else (laws_FnTempos.j2 kj50 t409 t410 t414 t415 t425 t426 t427 t431 t432 t440 t443 t437 t438)) else (some false))) else (laws_FnTempos.j2 kj50 t409 t410 t414 t415 t425 t426 t427 t431 t432 t440 t443 t437 t438)) = some r := by rw [if_neg (show ¬ (false = true) by decide)] at H; exact H
          clear H
          have H := H1
          clear H1
          by_cases c58 : t423 < 2000
          ·rw [if_pos c58] at H
           have c58b0 : decide (t423 < 2000) = true := decide_eq_true c58
           clear c58
           replace H := Option.bind_eq_some_iff.mp H
           obtain ⟨⟨t453, t454⟩, A590, H⟩ := H
           replace H : (if t454 = true then (if t453 ≤ t418 then (some false) else (laws_FnTempos.j2 kj50 t409 t410 t414 t415 t425 t426 t427 t431 t432 t440 t443 t437 t438)) else (some false)) = some r := H
           have A59 := M_ A590
           clear A590
           by_cases c60 : t454 = true
           ·subst c60
            have H1 : (if t453 ≤ t418 then (some false) else (laws_FnTempos.j2 kj50 t409 t410 t414 t415 t425 t426 t427 t431 t432 t440 t443 t437 t438)) = some r := by rw [if_pos rfl] at H; exact H
            clear H
            have H := H1
            clear H1
            by_cases c61 : t453 ≤ t418
            ·rw [if_pos c61] at H
             have c61b0 : decide (t453 ≤ t418) = true := decide_eq_true c61
             clear c61
             obtain rfl := Option.some.inj H
             go_wp2_with (first | ((with_reducible refine gate_callee (f := 55) rfl ?_); refine goesL_ (some 201) rfl rfl Try.func55 (by kernel_rfl) rfl #[.slice Ao22 t417.length co22, .int .i64 (wrap64 (t423 + 1))] rfl (by (try simp only [List.map_toArray, List.map_cons, List.map_nil]); first | done | rfl | (simp only [List.length_drop, List.length_take]; rfl)) ?_; (with_reducible refine (impl_TimeOf.calls kj50 _ _ t417 (wrap64 (t423 + 1)) t453 true _ ?side1 ?side2 A59.out).mono ?_); (case side1 => repeat (first | exact (Kd.R_reads' HO_11.out).2.2 | (with_reducible refine Kd.C_alloc ?_ _) | (with_reducible refine Kd.C_drewN ?_ _) | (with_reducible refine Kd.C_drew ?_))); (case side2 => exact (Kd.R_reads' HO_11.out).2.1); rintro e w62 ⟨rfl, hb⟩; refine ⟨_, rfl, ?_⟩; have n0_ := M_ (rb_ (by (with_reducible repeat (first | apply ra_ | apply rn_ | apply rd_)); exact HO_5.out) hb); have n1_ := M_ (rb_ (by (with_reducible repeat (first | apply ra_ | apply rn_ | apply rd_)); exact HO_11.out) hb); have n2_ := M_ (rb_ (by (with_reducible repeat (first | apply ra_ | apply rn_ | apply rd_)); exact HO_17.out) hb); have n3_ := M_ (rb_ (by (with_reducible repeat (first | apply ra_ | apply rn_ | apply rd_)); exact HO_26.out) hb); have n4_ := M_ (blk_below (g := gb439) (o := .cells #[.int .i64 t437, .int .i64 t438] 48 (0, 0)) (by (with_reducible repeat (first | refine kn_ ?_ _ | refine kd_ ?_ | refine ka_ ?_ _)); exact BK439.out) hb); have n5_ := M_ (below_step (by repeat (first | (with_reducible first | exact HB.out | apply ba_ | apply bn_ | apply b1_ | refine bs_ ?_ GE439.out) | exact HB.out)) hb); clear HO_5; clear HO_11; clear HO_17; clear HO_26; clear BK439; clear HB; have HO_5 := n0_; have HO_11 := n1_; have HO_17 := n2_; have HO_26 := n3_; have BK439 := n4_; have HB := n5_; clear n0_ n1_ n2_ n3_ n4_ n5_; (try clear hb); (try clear hb2); (try clear hk); (try clear hi)))
             go_ret
             exact ⟨by first | rfl | (simp [errW_none, errW_some] <;> rfl) | (simp [*, errW_none, errW_some] <;> rfl), by repeat (first | (with_reducible first | exact HB.out | apply ba_ | apply bn_ | apply b1_ | refine bs_ ?_ GE439.out) | exact HB.out)⟩
            ·rw [if_neg c61] at H
             have c61b0 : decide (t453 ≤ t418) = false := decide_eq_false c61
             clear c61
             have H' := M_ H
             clear H
             go_wp2_with (first | ((with_reducible refine gate_callee (f := 55) rfl ?_); refine goesL_ (some 201) rfl rfl Try.func55 (by kernel_rfl) rfl #[.slice Ao22 t417.length co22, .int .i64 (wrap64 (t423 + 1))] rfl (by (try simp only [List.map_toArray, List.map_cons, List.map_nil]); first | done | rfl | (simp only [List.length_drop, List.length_take]; rfl)) ?_; (with_reducible refine (impl_TimeOf.calls kj50 _ _ t417 (wrap64 (t423 + 1)) t453 true _ ?side1 ?side2 A59.out).mono ?_); (case side1 => repeat (first | exact (Kd.R_reads' HO_11.out).2.2 | (with_reducible refine Kd.C_alloc ?_ _) | (with_reducible refine Kd.C_drewN ?_ _) | (with_reducible refine Kd.C_drew ?_))); (case side2 => exact (Kd.R_reads' HO_11.out).2.1); rintro e w63 ⟨rfl, hb⟩; refine ⟨_, rfl, ?_⟩; have n0_ := M_ (rb_ (by (with_reducible repeat (first | apply ra_ | apply rn_ | apply rd_)); exact HO_5.out) hb); have n1_ := M_ (rb_ (by (with_reducible repeat (first | apply ra_ | apply rn_ | apply rd_)); exact HO_11.out) hb); have n2_ := M_ (rb_ (by (with_reducible repeat (first | apply ra_ | apply rn_ | apply rd_)); exact HO_17.out) hb); have n3_ := M_ (rb_ (by (with_reducible repeat (first | apply ra_ | apply rn_ | apply rd_)); exact HO_26.out) hb); have n4_ := M_ (blk_below (g := gb439) (o := .cells #[.int .i64 t437, .int .i64 t438] 48 (0, 0)) (by (with_reducible repeat (first | refine kn_ ?_ _ | refine kd_ ?_ | refine ka_ ?_ _)); exact BK439.out) hb); have n5_ := M_ (below_step (by repeat (first | (with_reducible first | exact HB.out | apply ba_ | apply bn_ | apply b1_ | refine bs_ ?_ GE439.out) | exact HB.out)) hb); clear HO_5; clear HO_11; clear HO_17; clear HO_26; clear BK439; clear HB; have HO_5 := n0_; have HO_11 := n1_; have HO_17 := n2_; have HO_26 := n3_; have BK439 := n4_; have HB := n5_; clear n0_ n1_ n2_ n3_ n4_ n5_; (try clear hb); (try clear hb2); (try clear hk); (try clear hi)))
             go_meet
             case rel => exact ⟨_, H', ⟨by have := HJ15.out; have := HJ50.out; first | omega | exact Nat.le_refl _⟩, ⟨by (with_reducible repeat (first | apply ra_ | apply rn_ | apply rd_)); exact rm_ HO_5.out (fun _ hk => ⟨hk.2.1, ⟨hk.2.2.1, hk.2.2.2⟩⟩)⟩, ⟨by (with_reducible repeat (first | apply ra_ | apply rn_ | apply rd_)); exact rm_ HO_17.out (fun _ hk => ⟨hk.1, ⟨hk.2.2.1, hk.2.2.2⟩⟩)⟩, ⟨by (with_reducible repeat (first | apply ra_ | apply rn_ | apply rd_)); exact rm_ HO_26.out (fun _ hk => ⟨hk.1, ⟨hk.2.2.1, hk.2.2.2⟩⟩)⟩, ⟨by (with_reducible repeat (first | refine kn_ ?_ _ | refine kd_ ?_ | refine ka_ ?_ _)); exact BK439.out⟩, ⟨by repeat (first | (with_reducible first | exact HB.out | apply ba_ | apply bn_ | apply b1_ | refine bs_ ?_ GE439.out) | exact HB.out)⟩⟩
           ·replace c60 := Bool.eq_false_iff.mpr c60
            subst c60
            have H1 : (some false) = some r := by rw [if_neg (show ¬ (false = true) by decide)] at H; exact H
            clear H
            have H := H1
            clear H1
            obtain rfl := Option.some.inj H
            go_wp2_with (first | ((with_reducible refine gate_callee (f := 55) rfl ?_); refine goesL_ (some 201) rfl rfl Try.func55 (by kernel_rfl) rfl #[.slice Ao22 t417.length co22, .int .i64 (wrap64 (t423 + 1))] rfl (by (try simp only [List.map_toArray, List.map_cons, List.map_nil]); first | done | rfl | (simp only [List.length_drop, List.length_take]; rfl)) ?_; (with_reducible refine (impl_TimeOf.calls kj50 _ _ t417 (wrap64 (t423 + 1)) t453 false _ ?side1 ?side2 A59.out).mono ?_); (case side1 => repeat (first | exact (Kd.R_reads' HO_11.out).2.2 | (with_reducible refine Kd.C_alloc ?_ _) | (with_reducible refine Kd.C_drewN ?_ _) | (with_reducible refine Kd.C_drew ?_))); (case side2 => exact (Kd.R_reads' HO_11.out).2.1); rintro e w64 ⟨rfl, hb⟩; refine ⟨_, rfl, ?_⟩; have n0_ := M_ (rb_ (by (with_reducible repeat (first | apply ra_ | apply rn_ | apply rd_)); exact HO_5.out) hb); have n1_ := M_ (rb_ (by (with_reducible repeat (first | apply ra_ | apply rn_ | apply rd_)); exact HO_11.out) hb); have n2_ := M_ (rb_ (by (with_reducible repeat (first | apply ra_ | apply rn_ | apply rd_)); exact HO_17.out) hb); have n3_ := M_ (rb_ (by (with_reducible repeat (first | apply ra_ | apply rn_ | apply rd_)); exact HO_26.out) hb); have n4_ := M_ (blk_below (g := gb439) (o := .cells #[.int .i64 t437, .int .i64 t438] 48 (0, 0)) (by (with_reducible repeat (first | refine kn_ ?_ _ | refine kd_ ?_ | refine ka_ ?_ _)); exact BK439.out) hb); have n5_ := M_ (below_step (by repeat (first | (with_reducible first | exact HB.out | apply ba_ | apply bn_ | apply b1_ | refine bs_ ?_ GE439.out) | exact HB.out)) hb); clear HO_5; clear HO_11; clear HO_17; clear HO_26; clear BK439; clear HB; have HO_5 := n0_; have HO_11 := n1_; have HO_17 := n2_; have HO_26 := n3_; have BK439 := n4_; have HB := n5_; clear n0_ n1_ n2_ n3_ n4_ n5_; (try clear hb); (try clear hb2); (try clear hk); (try clear hi)))
            go_ret
            exact ⟨by first | rfl | (simp [errW_none, errW_some] <;> rfl) | (simp [*, errW_none, errW_some] <;> rfl), by repeat (first | (with_reducible first | exact HB.out | apply ba_ | apply bn_ | apply b1_ | refine bs_ ?_ GE439.out) | exact HB.out)⟩
          ·rw [if_neg c58] at H
           have c58b0 : decide (t423 < 2000) = false := decide_eq_false c58
           clear c58
           have H' := M_ H
           clear H
           go_wp2
           go_meet
           case rel => exact ⟨_, H', ⟨by have := HJ15.out; have := HJ50.out; first | omega | exact Nat.le_refl _⟩, ⟨by (with_reducible repeat (first | apply ra_ | apply rn_ | apply rd_)); exact rm_ HO_5.out (fun _ hk => ⟨hk.2.1, ⟨hk.2.2.1, hk.2.2.2⟩⟩)⟩, ⟨by (with_reducible repeat (first | apply ra_ | apply rn_ | apply rd_)); exact rm_ HO_17.out (fun _ hk => ⟨hk.1, ⟨hk.2.2.1, hk.2.2.2⟩⟩)⟩, ⟨by (with_reducible repeat (first | apply ra_ | apply rn_ | apply rd_)); exact rm_ HO_26.out (fun _ hk => ⟨hk.1, ⟨hk.2.2.1, hk.2.2.2⟩⟩)⟩, ⟨by (with_reducible repeat (first | refine kn_ ?_ _ | refine kd_ ?_ | refine ka_ ?_ _)); exact BK439.out⟩, ⟨by repeat (first | (with_reducible first | exact HB.out | apply ba_ | apply bn_ | apply b1_ | refine bs_ ?_ GE439.out) | exact HB.out)⟩⟩
      ·replace c48 := Bool.eq_false_iff.mpr c48
       subst c48
       have H1 : (laws_FnTempos.j2 kj15 t409 t410 t414 t415 t425 t426 t427 t431 t432 t440 t443 t437 t438) = some r := by rw [if_neg (show ¬ (false = true) by decide)] at H; exact H
       clear H
       have H := H1
       clear H1
       have H' := M_ H
       clear H
       go_wp2
       go_meet
       case rel => exact ⟨_, H', ⟨by have := HJ15.out; first | omega | exact Nat.le_refl _⟩, ⟨by (with_reducible repeat (first | apply ra_ | apply rn_ | apply rd_)); exact rm_ HO_5.out (fun _ hk => ⟨hk.2.1, ⟨hk.2.2.1, hk.2.2.2⟩⟩)⟩, ⟨by (with_reducible repeat (first | apply ra_ | apply rn_ | apply rd_)); exact rm_ HO_17.out (fun _ hk => ⟨hk.1, ⟨hk.2.2.1, hk.2.2.2⟩⟩)⟩, ⟨by (with_reducible repeat (first | apply ra_ | apply rn_ | apply rd_)); exact rm_ HO_26.out (fun _ hk => ⟨hk.1, ⟨hk.2.2.1, hk.2.2.2⟩⟩)⟩, ⟨by (with_reducible repeat (first | refine kn_ ?_ _ | refine kd_ ?_ | refine ka_ ?_ _)); exact BK439.out⟩, ⟨by repeat (first | (with_reducible first | exact HB.out | apply ba_ | apply bn_ | apply b1_ | refine bs_ ?_ GE439.out) | exact HB.out)⟩⟩
     case rest => as_aux_lemma =>
      clear HC47
      try clear c1
      try clear c2
      try clear p2
      try clear c3
      try clear c3b0
      try clear c4
      try clear c5
      try clear c6
      try clear p6
      try clear c12
      try clear c28
      try clear c31
      try clear c36
      try clear c36b0
      try clear c36b1
      try clear c36b2
      try clear c37
      try clear c37b0
      try clear c37b1
      try clear c38
      try clear c38b0
      try clear c38b1
      try clear c38b2
      try clear c39
      try clear c39b0
      try clear c39b1
      try clear c40
      try clear c40b0
      try clear c40b1
      try clear c40b2
      try clear c41
      try clear c41b0
      try clear c41b1
      try clear c42
      try clear c42b0
      try clear c42b1
      try clear c42b2
      try clear c46
      try clear c48
      try clear c54
      try clear c55
      try clear c56
      try clear c56b0
      try clear c56b1
      try clear c57
      try clear c58
      try clear c58b0
      try clear c59
      try clear c60
      try clear c61
      try clear c61b0
      try clear c62
      try clear c63
      try clear p64
      try clear hcz31_0
      try clear hcz31_1
      try clear hcz34_0
      try clear hcz34_1
      try clear hfz31_0
      try clear hfz31_1
      try clear hfz34_0
      try clear hfz34_1
      try clear p2
      try clear p6
      obtain ⟨kq, HA, HJ46, HO_5, HO_17, HO_26, BK439, HB⟩ := hcut
      cases kq with
      | zero => exact absurd HA.out (by simp [laws_FnTempos.j2])
      | succ kj46 =>
       have H := HA.out
       clear HA
       simp only [laws_FnTempos.j2] at H
       have HC65 := M_ H
       clear H
       go_upto_if 211 with (fail)
       go_cut [] (fun wc => ∃ (kq : Nat), Aside0 (laws_FnTempos.j3 kq t409 t410 t414 t415 t440 t443 t437 t438 = some r) ∧ Aside0 (kq ≤ kj46) ∧ Aside0 (Kd.R k48 48 wc w.heap.size (fun k_ => some k_ ≠ (v441 : Value).ownBlock ∧ k_ ≠ gb439) (.slice Ao18 t409.length co18) t409) ∧ Aside0 (Kd.R k48 48 wc w.heap.size (fun k_ => some k_ ≠ ((.slice Ao18 t409.length co18) : Value).ownBlock ∧ k_ ≠ gb439) v441 t440) ∧ Aside0 (wc.heap[gb439]? = some (.cells #[.int .i64 t437, .int .i64 t438] 48 (0, 0))) ∧ Aside0 (Below w.heap.size w wc))
       case first => as_aux_lemma =>
        have H := HC65.out
        clear HC65
        by_cases c66 : t431 = true
        ·subst c66
         have H1 : ((impl_TimeOf.f kj46 t425 t426).bind fun bt455 => ((impl_TimeOf.f kj46 t425 t427).bind fun bt457 => (if bt455.2 = true then (if bt457.2 = true then (if (wrap64 (bt457.1 - bt455.1)) = t432 then (laws_FnTempos.j3 kj46 t409 t410 t414 t415 t440 t443 t437 t438) else (some false)) else (some false)) else (some false)))) = some r := by rw [if_pos rfl] at H; exact H
         clear H
         have H := H1
         clear H1
         replace H := Option.bind_eq_some_iff.mp H
         obtain ⟨⟨t455, t456⟩, A670, H⟩ := H
         replace H : ((impl_TimeOf.f kj46 t425 t427).bind fun bt457 => (if t456 = true then (if bt457.2 = true then (if (wrap64 (bt457.1 - t455)) = t432 then (laws_FnTempos.j3 kj46 t409 t410 t414 t415 t440 t443 t437 t438) else (some false)) else (some false)) else (some false))) = some r := H
         have A67 := M_ A670
         clear A670
         replace H := Option.bind_eq_some_iff.mp H
         obtain ⟨⟨t457, t458⟩, A680, H⟩ := H
         replace H : (if t456 = true then (if t458 = true then (if (wrap64 (t457 - t455)) = t432 then (laws_FnTempos.j3 kj46 t409 t410 t414 t415 t440 t443 t437 t438) else (some false)) else (some false)) else (some false)) = some r := H
         have A68 := M_ A680
         clear A680
         by_cases c69 : t456 = true
         ·subst c69
          have H1 : (if t458 = true then (if (wrap64 (t457 - t455)) = t432 then (laws_FnTempos.j3 kj46 t409 t410 t414 t415 t440 t443 t437 t438) else (some false)) else (some false)) = some r := by rw [if_pos rfl] at H; exact H
          clear H
          have H := H1
          clear H1
          by_cases c70 : t458 = true
          ·subst c70
           have H1 : (if (wrap64 (t457 - t455)) = t432 then (laws_FnTempos.j3 kj46 t409 t410 t414 t415 t440 t443 t437 t438) else (some false)) = some r := by rw [if_pos rfl] at H; exact H
           clear H
           have H := H1
           clear H1
           by_cases c71 : (wrap64 (t457 - t455)) = t432
           ·rw [if_pos c71] at H
            have c71b0 : ((wrap64 (t457 - t455)) == t432) = true := beq_iff_eq.mpr c71
            have c71b1 : ((wrap64 (t457 - t455)) != t432) = false := bne_eq_false_iff_eq.mpr c71
            clear c71
            (first | rw [c71b0] | (simp only [i64_w, i32_w]; rw [c71b0]) | skip)
            have H' := M_ H
            clear H
            go_wp2_with (first | ((with_reducible refine gate_callee (f := 55) rfl ?_); refine goesL_ (some 215) rfl rfl Try.func55 (by kernel_rfl) rfl #[.slice Ao26 t425.length co26, .int .i64 t426] rfl (by (try simp only [List.map_toArray, List.map_cons, List.map_nil]); first | done | rfl | (simp only [List.length_drop, List.length_take]; rfl)) ?_; (with_reducible refine (impl_TimeOf.calls kj46 _ _ t425 t426 t455 true _ ?side1 ?side2 A67.out).mono ?_); (case side1 => repeat (first | exact (Kd.R_reads' HO_17.out).2.2 | (with_reducible refine Kd.C_alloc ?_ _) | (with_reducible refine Kd.C_drewN ?_ _) | (with_reducible refine Kd.C_drew ?_))); (case side2 => exact (Kd.R_reads' HO_17.out).2.1); rintro e w72 ⟨rfl, hb⟩; refine ⟨_, rfl, ?_⟩; have n0_ := M_ (rb_ (by (with_reducible repeat (first | apply ra_ | apply rn_ | apply rd_)); exact HO_5.out) hb); have n1_ := M_ (rb_ (by (with_reducible repeat (first | apply ra_ | apply rn_ | apply rd_)); exact HO_17.out) hb); have n2_ := M_ (rb_ (by (with_reducible repeat (first | apply ra_ | apply rn_ | apply rd_)); exact HO_26.out) hb); have n3_ := M_ (blk_below (g := gb439) (o := .cells #[.int .i64 t437, .int .i64 t438] 48 (0, 0)) (by (with_reducible repeat (first | refine kn_ ?_ _ | refine kd_ ?_ | refine ka_ ?_ _)); exact BK439.out) hb); have n4_ := M_ (below_step (by repeat (first | (with_reducible first | exact HB.out | apply ba_ | apply bn_ | apply b1_ | refine bs_ ?_ GE439.out) | exact HB.out)) hb); clear HO_5; clear HO_17; clear HO_26; clear BK439; clear HB; have HO_5 := n0_; have HO_17 := n1_; have HO_26 := n2_; have BK439 := n3_; have HB := n4_; clear n0_ n1_ n2_ n3_ n4_; (try clear hb); (try clear hb2); (try clear hk); (try clear hi)) | ((with_reducible refine gate_callee (f := 55) rfl ?_); refine goesL_ (some 221) rfl rfl Try.func55 (by kernel_rfl) rfl #[.slice Ao26 t425.length co26, .int .i64 t427] rfl (by (try simp only [List.map_toArray, List.map_cons, List.map_nil]); first | done | rfl | (simp only [List.length_drop, List.length_take]; rfl)) ?_; (with_reducible refine (impl_TimeOf.calls kj46 _ _ t425 t427 t457 true _ ?side1 ?side2 A68.out).mono ?_); (case side1 => repeat (first | exact (Kd.R_reads' HO_17.out).2.2 | (with_reducible refine Kd.C_alloc ?_ _) | (with_reducible refine Kd.C_drewN ?_ _) | (with_reducible refine Kd.C_drew ?_))); (case side2 => exact (Kd.R_reads' HO_17.out).2.1); rintro e w73 ⟨rfl, hb⟩; refine ⟨_, rfl, ?_⟩; have n0_ := M_ (rb_ (by (with_reducible repeat (first | apply ra_ | apply rn_ | apply rd_)); exact HO_5.out) hb); have n1_ := M_ (rb_ (by (with_reducible repeat (first | apply ra_ | apply rn_ | apply rd_)); exact HO_17.out) hb); have n2_ := M_ (rb_ (by (with_reducible repeat (first | apply ra_ | apply rn_ | apply rd_)); exact HO_26.out) hb); have n3_ := M_ (blk_below (g := gb439) (o := .cells #[.int .i64 t437, .int .i64 t438] 48 (0, 0)) (by (with_reducible repeat (first | refine kn_ ?_ _ | refine kd_ ?_ | refine ka_ ?_ _)); exact BK439.out) hb); have n4_ := M_ (below_step (by repeat (first | (with_reducible first | exact HB.out | apply ba_ | apply bn_ | apply b1_ | refine bs_ ?_ GE439.out) | exact HB.out)) hb); clear HO_5; clear HO_17; clear HO_26; clear BK439; clear HB; have HO_5 := n0_; have HO_17 := n1_; have HO_26 := n2_; have BK439 := n3_; have HB := n4_; clear n0_ n1_ n2_ n3_ n4_; (try clear hb); (try clear hb2); (try clear hk); (try clear hi)))
            go_meet
            case rel => exact ⟨_, H', ⟨by have := HJ15.out; have := HJ46.out; first | omega | exact Nat.le_refl _⟩, ⟨by (with_reducible repeat (first | apply ra_ | apply rn_ | apply rd_)); first | exact rm_ HO_5.out (fun _ hk => ⟨hk.2.1, hk.2.2⟩) | exact rm_ HO_5.out (fun _ hk => by refine ⟨?_, ?_⟩ <;> (first | exact hk.2 | exact hk.2.1 | exact hk.2.2 | exact hk.1.2 | exact hk.1.2.1 | exact hk.1.2.2 | exact hk.1.1.2 | exact hk.1.1.2.1 | exact hk.1.1.2.2 | exact hk.1.1.1.2 | exact hk.1.1.1.2.1 | exact hk.1.1.1.2.2 | exact hk.1.1.1.1.2 | exact hk.1.1.1.1.2.1 | exact hk.1.1.1.1.2.2 | exact hk | exact hk.1 | exact hk.1.1 | exact hk.1.1.1 | exact hk.1.1.1.1 | exact hk.1.1.1.1.1))⟩, ⟨by (with_reducible repeat (first | apply ra_ | apply rn_ | apply rd_)); first | exact rm_ HO_26.out (fun _ hk => ⟨hk.1, hk.2.2⟩) | exact rm_ HO_26.out (fun _ hk => by refine ⟨?_, ?_⟩ <;> (first | exact hk.2 | exact hk.2.1 | exact hk.2.2 | exact hk.1.2 | exact hk.1.2.1 | exact hk.1.2.2 | exact hk.1.1.2 | exact hk.1.1.2.1 | exact hk.1.1.2.2 | exact hk.1.1.1.2 | exact hk.1.1.1.2.1 | exact hk.1.1.1.2.2 | exact hk.1.1.1.1.2 | exact hk.1.1.1.1.2.1 | exact hk.1.1.1.1.2.2 | exact hk | exact hk.1 | exact hk.1.1 | exact hk.1.1.1 | exact hk.1.1.1.1 | exact hk.1.1.1.1.1))⟩, ⟨by (with_reducible repeat (first | refine kn_ ?_ _ | refine kd_ ?_ | refine ka_ ?_ _)); exact BK439.out⟩, ⟨by repeat (first | (with_reducible first | exact HB.out | apply ba_ | apply bn_ | apply b1_ | refine bs_ ?_ GE439.out) | exact HB.out)⟩⟩
           ·rw [if_neg c71] at H
            have c71b0 : ((wrap64 (t457 - t455)) == t432) = false := beq_eq_false_iff_ne.mpr c71
            have c71b1 : ((wrap64 (t457 - t455)) != t432) = true := bne_iff_ne.mpr c71
            (first | rw [c71b0] | (simp only [i64_w, i32_w]; rw [c71b0]) | skip)
            obtain rfl := Option.some.inj H
            go_wp2_with (first | ((with_reducible refine gate_callee (f := 55) rfl ?_); refine goesL_ (some 215) rfl rfl Try.func55 (by kernel_rfl) rfl #[.slice Ao26 t425.length co26, .int .i64 t426] rfl (by (try simp only [List.map_toArray, List.map_cons, List.map_nil]); first | done | rfl | (simp only [List.length_drop, List.length_take]; rfl)) ?_; (with_reducible refine (impl_TimeOf.calls kj46 _ _ t425 t426 t455 true _ ?side1 ?side2 A67.out).mono ?_); (case side1 => repeat (first | exact (Kd.R_reads' HO_17.out).2.2 | (with_reducible refine Kd.C_alloc ?_ _) | (with_reducible refine Kd.C_drewN ?_ _) | (with_reducible refine Kd.C_drew ?_))); (case side2 => exact (Kd.R_reads' HO_17.out).2.1); rintro e w74 ⟨rfl, hb⟩; refine ⟨_, rfl, ?_⟩; have n0_ := M_ (rb_ (by (with_reducible repeat (first | apply ra_ | apply rn_ | apply rd_)); exact HO_5.out) hb); have n1_ := M_ (rb_ (by (with_reducible repeat (first | apply ra_ | apply rn_ | apply rd_)); exact HO_17.out) hb); have n2_ := M_ (rb_ (by (with_reducible repeat (first | apply ra_ | apply rn_ | apply rd_)); exact HO_26.out) hb); have n3_ := M_ (blk_below (g := gb439) (o := .cells #[.int .i64 t437, .int .i64 t438] 48 (0, 0)) (by (with_reducible repeat (first | refine kn_ ?_ _ | refine kd_ ?_ | refine ka_ ?_ _)); exact BK439.out) hb); have n4_ := M_ (below_step (by repeat (first | (with_reducible first | exact HB.out | apply ba_ | apply bn_ | apply b1_ | refine bs_ ?_ GE439.out) | exact HB.out)) hb); clear HO_5; clear HO_17; clear HO_26; clear BK439; clear HB; have HO_5 := n0_; have HO_17 := n1_; have HO_26 := n2_; have BK439 := n3_; have HB := n4_; clear n0_ n1_ n2_ n3_ n4_; (try clear hb); (try clear hb2); (try clear hk); (try clear hi)) | ((with_reducible refine gate_callee (f := 55) rfl ?_); refine goesL_ (some 221) rfl rfl Try.func55 (by kernel_rfl) rfl #[.slice Ao26 t425.length co26, .int .i64 t427] rfl (by (try simp only [List.map_toArray, List.map_cons, List.map_nil]); first | done | rfl | (simp only [List.length_drop, List.length_take]; rfl)) ?_; (with_reducible refine (impl_TimeOf.calls kj46 _ _ t425 t427 t457 true _ ?side1 ?side2 A68.out).mono ?_); (case side1 => repeat (first | exact (Kd.R_reads' HO_17.out).2.2 | (with_reducible refine Kd.C_alloc ?_ _) | (with_reducible refine Kd.C_drewN ?_ _) | (with_reducible refine Kd.C_drew ?_))); (case side2 => exact (Kd.R_reads' HO_17.out).2.1); rintro e w75 ⟨rfl, hb⟩; refine ⟨_, rfl, ?_⟩; have n0_ := M_ (rb_ (by (with_reducible repeat (first | apply ra_ | apply rn_ | apply rd_)); exact HO_5.out) hb); have n1_ := M_ (rb_ (by (with_reducible repeat (first | apply ra_ | apply rn_ | apply rd_)); exact HO_17.out) hb); have n2_ := M_ (rb_ (by (with_reducible repeat (first | apply ra_ | apply rn_ | apply rd_)); exact HO_26.out) hb); have n3_ := M_ (blk_below (g := gb439) (o := .cells #[.int .i64 t437, .int .i64 t438] 48 (0, 0)) (by (with_reducible repeat (first | refine kn_ ?_ _ | refine kd_ ?_ | refine ka_ ?_ _)); exact BK439.out) hb); have n4_ := M_ (below_step (by repeat (first | (with_reducible first | exact HB.out | apply ba_ | apply bn_ | apply b1_ | refine bs_ ?_ GE439.out) | exact HB.out)) hb); clear HO_5; clear HO_17; clear HO_26; clear BK439; clear HB; have HO_5 := n0_; have HO_17 := n1_; have HO_26 := n2_; have BK439 := n3_; have HB := n4_; clear n0_ n1_ n2_ n3_ n4_; (try clear hb); (try clear hb2); (try clear hk); (try clear hi)))
            go_ret
            exact ⟨by first | rfl | (simp [errW_none, errW_some] <;> rfl) | (simp [*, errW_none, errW_some] <;> rfl), by repeat (first | (with_reducible first | exact HB.out | apply ba_ | apply bn_ | apply b1_ | refine bs_ ?_ GE439.out) | exact HB.out)⟩
          ·replace c70 := Bool.eq_false_iff.mpr c70
           subst c70
           have H1 : (some false) = some r := by rw [if_neg (show ¬ (false = true) by decide)] at H; exact H
           clear H
           have H := H1
           clear H1
           obtain rfl := Option.some.inj H
           go_wp2_with (first | ((with_reducible refine gate_callee (f := 55) rfl ?_); refine goesL_ (some 215) rfl rfl Try.func55 (by kernel_rfl) rfl #[.slice Ao26 t425.length co26, .int .i64 t426] rfl (by (try simp only [List.map_toArray, List.map_cons, List.map_nil]); first | done | rfl | (simp only [List.length_drop, List.length_take]; rfl)) ?_; (with_reducible refine (impl_TimeOf.calls kj46 _ _ t425 t426 t455 true _ ?side1 ?side2 A67.out).mono ?_); (case side1 => repeat (first | exact (Kd.R_reads' HO_17.out).2.2 | (with_reducible refine Kd.C_alloc ?_ _) | (with_reducible refine Kd.C_drewN ?_ _) | (with_reducible refine Kd.C_drew ?_))); (case side2 => exact (Kd.R_reads' HO_17.out).2.1); rintro e w76 ⟨rfl, hb⟩; refine ⟨_, rfl, ?_⟩; have n0_ := M_ (rb_ (by (with_reducible repeat (first | apply ra_ | apply rn_ | apply rd_)); exact HO_5.out) hb); have n1_ := M_ (rb_ (by (with_reducible repeat (first | apply ra_ | apply rn_ | apply rd_)); exact HO_17.out) hb); have n2_ := M_ (rb_ (by (with_reducible repeat (first | apply ra_ | apply rn_ | apply rd_)); exact HO_26.out) hb); have n3_ := M_ (blk_below (g := gb439) (o := .cells #[.int .i64 t437, .int .i64 t438] 48 (0, 0)) (by (with_reducible repeat (first | refine kn_ ?_ _ | refine kd_ ?_ | refine ka_ ?_ _)); exact BK439.out) hb); have n4_ := M_ (below_step (by repeat (first | (with_reducible first | exact HB.out | apply ba_ | apply bn_ | apply b1_ | refine bs_ ?_ GE439.out) | exact HB.out)) hb); clear HO_5; clear HO_17; clear HO_26; clear BK439; clear HB; have HO_5 := n0_; have HO_17 := n1_; have HO_26 := n2_; have BK439 := n3_; have HB := n4_; clear n0_ n1_ n2_ n3_ n4_; (try clear hb); (try clear hb2); (try clear hk); (try clear hi)) | ((with_reducible refine gate_callee (f := 55) rfl ?_); refine goesL_ (some 221) rfl rfl Try.func55 (by kernel_rfl) rfl #[.slice Ao26 t425.length co26, .int .i64 t427] rfl (by (try simp only [List.map_toArray, List.map_cons, List.map_nil]); first | done | rfl | (simp only [List.length_drop, List.length_take]; rfl)) ?_; (with_reducible refine (impl_TimeOf.calls kj46 _ _ t425 t427 t457 false _ ?side1 ?side2 A68.out).mono ?_); (case side1 => repeat (first | exact (Kd.R_reads' HO_17.out).2.2 | (with_reducible refine Kd.C_alloc ?_ _) | (with_reducible refine Kd.C_drewN ?_ _) | (with_reducible refine Kd.C_drew ?_))); (case side2 => exact (Kd.R_reads' HO_17.out).2.1); rintro e w77 ⟨rfl, hb⟩; refine ⟨_, rfl, ?_⟩; have n0_ := M_ (rb_ (by (with_reducible repeat (first | apply ra_ | apply rn_ | apply rd_)); exact HO_5.out) hb); have n1_ := M_ (rb_ (by (with_reducible repeat (first | apply ra_ | apply rn_ | apply rd_)); exact HO_17.out) hb); have n2_ := M_ (rb_ (by (with_reducible repeat (first | apply ra_ | apply rn_ | apply rd_)); exact HO_26.out) hb); have n3_ := M_ (blk_below (g := gb439) (o := .cells #[.int .i64 t437, .int .i64 t438] 48 (0, 0)) (by (with_reducible repeat (first | refine kn_ ?_ _ | refine kd_ ?_ | refine ka_ ?_ _)); exact BK439.out) hb); have n4_ := M_ (below_step (by repeat (first | (with_reducible first | exact HB.out | apply ba_ | apply bn_ | apply b1_ | refine bs_ ?_ GE439.out) | exact HB.out)) hb); clear HO_5; clear HO_17; clear HO_26; clear BK439; clear HB; have HO_5 := n0_; have HO_17 := n1_; have HO_26 := n2_; have BK439 := n3_; have HB := n4_; clear n0_ n1_ n2_ n3_ n4_; (try clear hb); (try clear hb2); (try clear hk); (try clear hi)))
           go_ret
           exact ⟨by first | rfl | (simp [errW_none, errW_some] <;> rfl) | (simp [*, errW_none, errW_some] <;> rfl), by repeat (first | (with_reducible first | exact HB.out | apply ba_ | apply bn_ | apply b1_ | refine bs_ ?_ GE439.out) | exact HB.out)⟩
         ·replace c69 := Bool.eq_false_iff.mpr c69
          subst c69
          have H1 : (some false) = some r := by rw [if_neg (show ¬ (false = true) by decide)] at H; exact H
          clear H
          have H := H1
          clear H1
          obtain rfl := Option.some.inj H
          go_wp2_with (first | ((with_reducible refine gate_callee (f := 55) rfl ?_); refine goesL_ (some 215) rfl rfl Try.func55 (by kernel_rfl) rfl #[.slice Ao26 t425.length co26, .int .i64 t426] rfl (by (try simp only [List.map_toArray, List.map_cons, List.map_nil]); first | done | rfl | (simp only [List.length_drop, List.length_take]; rfl)) ?_; (with_reducible refine (impl_TimeOf.calls kj46 _ _ t425 t426 t455 false _ ?side1 ?side2 A67.out).mono ?_); (case side1 => repeat (first | exact (Kd.R_reads' HO_17.out).2.2 | (with_reducible refine Kd.C_alloc ?_ _) | (with_reducible refine Kd.C_drewN ?_ _) | (with_reducible refine Kd.C_drew ?_))); (case side2 => exact (Kd.R_reads' HO_17.out).2.1); rintro e w78 ⟨rfl, hb⟩; refine ⟨_, rfl, ?_⟩; have n0_ := M_ (rb_ (by (with_reducible repeat (first | apply ra_ | apply rn_ | apply rd_)); exact HO_5.out) hb); have n1_ := M_ (rb_ (by (with_reducible repeat (first | apply ra_ | apply rn_ | apply rd_)); exact HO_17.out) hb); have n2_ := M_ (rb_ (by (with_reducible repeat (first | apply ra_ | apply rn_ | apply rd_)); exact HO_26.out) hb); have n3_ := M_ (blk_below (g := gb439) (o := .cells #[.int .i64 t437, .int .i64 t438] 48 (0, 0)) (by (with_reducible repeat (first | refine kn_ ?_ _ | refine kd_ ?_ | refine ka_ ?_ _)); exact BK439.out) hb); have n4_ := M_ (below_step (by repeat (first | (with_reducible first | exact HB.out | apply ba_ | apply bn_ | apply b1_ | refine bs_ ?_ GE439.out) | exact HB.out)) hb); clear HO_5; clear HO_17; clear HO_26; clear BK439; clear HB; have HO_5 := n0_; have HO_17 := n1_; have HO_26 := n2_; have BK439 := n3_; have HB := n4_; clear n0_ n1_ n2_ n3_ n4_; (try clear hb); (try clear hb2); (try clear hk); (try clear hi)) | ((with_reducible refine gate_callee (f := 55) rfl ?_); refine goesL_ (some 221) rfl rfl Try.func55 (by kernel_rfl) rfl #[.slice Ao26 t425.length co26, .int .i64 t427] rfl (by (try simp only [List.map_toArray, List.map_cons, List.map_nil]); first | done | rfl | (simp only [List.length_drop, List.length_take]; rfl)) ?_; (with_reducible refine (impl_TimeOf.calls kj46 _ _ t425 t427 t457 t458 _ ?side1 ?side2 A68.out).mono ?_); (case side1 => repeat (first | exact (Kd.R_reads' HO_17.out).2.2 | (with_reducible refine Kd.C_alloc ?_ _) | (with_reducible refine Kd.C_drewN ?_ _) | (with_reducible refine Kd.C_drew ?_))); (case side2 => exact (Kd.R_reads' HO_17.out).2.1); rintro e w79 ⟨rfl, hb⟩; refine ⟨_, rfl, ?_⟩; have n0_ := M_ (rb_ (by (with_reducible repeat (first | apply ra_ | apply rn_ | apply rd_)); exact HO_5.out) hb); have n1_ := M_ (rb_ (by (with_reducible repeat (first | apply ra_ | apply rn_ | apply rd_)); exact HO_17.out) hb); have n2_ := M_ (rb_ (by (with_reducible repeat (first | apply ra_ | apply rn_ | apply rd_)); exact HO_26.out) hb); have n3_ := M_ (blk_below (g := gb439) (o := .cells #[.int .i64 t437, .int .i64 t438] 48 (0, 0)) (by (with_reducible repeat (first | refine kn_ ?_ _ | refine kd_ ?_ | refine ka_ ?_ _)); exact BK439.out) hb); have n4_ := M_ (below_step (by repeat (first | (with_reducible first | exact HB.out | apply ba_ | apply bn_ | apply b1_ | refine bs_ ?_ GE439.out) | exact HB.out)) hb); clear HO_5; clear HO_17; clear HO_26; clear BK439; clear HB; have HO_5 := n0_; have HO_17 := n1_; have HO_26 := n2_; have BK439 := n3_; have HB := n4_; clear n0_ n1_ n2_ n3_ n4_; (try clear hb); (try clear hb2); (try clear hk); (try clear hi)))
          go_ret
          exact ⟨by first | rfl | (simp [errW_none, errW_some] <;> rfl) | (simp [*, errW_none, errW_some] <;> rfl), by repeat (first | (with_reducible first | exact HB.out | apply ba_ | apply bn_ | apply b1_ | refine bs_ ?_ GE439.out) | exact HB.out)⟩
        ·replace c66 := Bool.eq_false_iff.mpr c66
         subst c66
         have H1 : (laws_FnTempos.j3 kj46 t409 t410 t414 t415 t440 t443 t437 t438) = some r := by rw [if_neg (show ¬ (false = true) by decide)] at H; exact H
         clear H
         have H := H1
         clear H1
         have H' := M_ H
         clear H
         go_wp2
         go_meet
         case rel => exact ⟨_, H', ⟨by have := HJ15.out; have := HJ46.out; first | omega | exact Nat.le_refl _⟩, ⟨by (with_reducible repeat (first | apply ra_ | apply rn_ | apply rd_)); first | exact rm_ HO_5.out (fun _ hk => ⟨hk.2.1, hk.2.2⟩) | exact rm_ HO_5.out (fun _ hk => by refine ⟨?_, ?_⟩ <;> (first | exact hk.2 | exact hk.2.1 | exact hk.2.2 | exact hk.1.2 | exact hk.1.2.1 | exact hk.1.2.2 | exact hk.1.1.2 | exact hk.1.1.2.1 | exact hk.1.1.2.2 | exact hk.1.1.1.2 | exact hk.1.1.1.2.1 | exact hk.1.1.1.2.2 | exact hk.1.1.1.1.2 | exact hk.1.1.1.1.2.1 | exact hk.1.1.1.1.2.2 | exact hk | exact hk.1 | exact hk.1.1 | exact hk.1.1.1 | exact hk.1.1.1.1 | exact hk.1.1.1.1.1))⟩, ⟨by (with_reducible repeat (first | apply ra_ | apply rn_ | apply rd_)); first | exact rm_ HO_26.out (fun _ hk => ⟨hk.1, hk.2.2⟩) | exact rm_ HO_26.out (fun _ hk => by refine ⟨?_, ?_⟩ <;> (first | exact hk.2 | exact hk.2.1 | exact hk.2.2 | exact hk.1.2 | exact hk.1.2.1 | exact hk.1.2.2 | exact hk.1.1.2 | exact hk.1.1.2.1 | exact hk.1.1.2.2 | exact hk.1.1.1.2 | exact hk.1.1.1.2.1 | exact hk.1.1.1.2.2 | exact hk.1.1.1.1.2 | exact hk.1.1.1.1.2.1 | exact hk.1.1.1.1.2.2 | exact hk | exact hk.1 | exact hk.1.1 | exact hk.1.1.1 | exact hk.1.1.1.1 | exact hk.1.1.1.1.1))⟩, ⟨by (with_reducible repeat (first | refine kn_ ?_ _ | refine kd_ ?_ | refine ka_ ?_ _)); exact BK439.out⟩, ⟨by repeat (first | (with_reducible first | exact HB.out | apply ba_ | apply bn_ | apply b1_ | refine bs_ ?_ GE439.out) | exact HB.out)⟩⟩
       case rest => as_aux_lemma =>
        clear HC65
        try clear c1
        try clear c2
        try clear p2
        try clear c3
        try clear c3b0
        try clear c4
        try clear c5
        try clear c6
        try clear p6
        try clear c7
        try clear c12
        try clear c28
        try clear c31
        try clear c36
        try clear c36b0
        try clear c36b1
        try clear c36b2
        try clear c37
        try clear c37b0
        try clear c37b1
        try clear c38
        try clear c38b0
        try clear c38b1
        try clear c38b2
        try clear c39
        try clear c39b0
        try clear c39b1
        try clear c40
        try clear c40b0
        try clear c40b1
        try clear c40b2
        try clear c41
        try clear c41b0
        try clear c41b1
        try clear c42
        try clear c42b0
        try clear c42b1
        try clear c42b2
        try clear c46
        try clear c48
        try clear c54
        try clear c55
        try clear c56
        try clear c56b0
        try clear c56b1
        try clear c57
        try clear c58
        try clear c58b0
        try clear c59
        try clear c60
        try clear c61
        try clear c61b0
        try clear c62
        try clear c63
        try clear p64
        try clear c66
        try clear c69
        try clear c70
        try clear c71
        try clear c71b0
        try clear c71b1
        try clear hcz31_0
        try clear hcz31_1
        try clear hcz34_0
        try clear hcz34_1
        try clear hfz31_0
        try clear hfz31_1
        try clear hfz34_0
        try clear hfz34_1
        try clear p2
        try clear p6
        try clear p64
        obtain ⟨kq, HA, HJ64, HO_5, HO_26, BK439, HB⟩ := hcut
        cases kq with
        | zero => exact absurd HA.out (by simp [laws_FnTempos.j3])
        | succ kj64 =>
         have H := HA.out
         clear HA
         simp only [laws_FnTempos.j3] at H
         have HC80 := M_ H
         clear H
         go_upto_if 237 with (fail)
         go_cut [] (fun wc => ∃ (kq : Nat), Aside0 (laws_FnTempos.j4 kq t409 t410 t414 t415 = some r) ∧ Aside0 (kq ≤ kj64) ∧ Aside0 (Kd.R k48 48 wc w.heap.size (fun k_ => k_ ≠ gb439) (.slice Ao18 t409.length co18) t409) ∧ Aside0 (wc.heap[gb439]? = some (.cells #[.int .i64 t437, .int .i64 t438] 48 (0, 0))) ∧ Aside0 (Below w.heap.size w wc))
         case first => as_aux_lemma =>
          have H := HC80.out
          clear HC80
          by_cases c81 : t443 = true
          ·subst c81
           have H1 : ((impl_TempoAt.f kj64 t440 t437).bind fun bt459 => (if bt459.2 = true then (if bt459.1 = t438 then ((impl_AreTempos.f kj64 t440).bind fun t461 => (if t461 = true then (laws_FnTempos.j4 kj64 t409 t410 t414 t415) else (some false))) else (some false)) else (some false))) = some r := by rw [if_pos rfl] at H; exact H
           clear H
           have H := H1
           clear H1
           replace H := Option.bind_eq_some_iff.mp H
           obtain ⟨⟨t459, t460⟩, A820, H⟩ := H
           replace H : (if t460 = true then (if t459 = t438 then ((impl_AreTempos.f kj64 t440).bind fun t461 => (if t461 = true then (laws_FnTempos.j4 kj64 t409 t410 t414 t415) else (some false))) else (some false)) else (some false)) = some r := H
           have A82 := M_ A820
           clear A820
           by_cases c83 : t460 = true
           ·subst c83
            have H1 : (if t459 = t438 then ((impl_AreTempos.f kj64 t440).bind fun t461 => (if t461 = true then (laws_FnTempos.j4 kj64 t409 t410 t414 t415) else (some false))) else (some false)) = some r := by rw [if_pos rfl] at H; exact H
            clear H
            have H := H1
            clear H1
            by_cases c84 : t459 = t438
            ·rw [if_pos c84] at H
             have c84b0 : (t459 == t438) = true := beq_iff_eq.mpr c84
             have c84b1 : (t459 != t438) = false := bne_eq_false_iff_eq.mpr c84
             clear c84
             (first | rw [c84b0] | (simp only [i64_w, i32_w]; rw [c84b0]) | skip)
             replace H := Option.bind_eq_some_iff.mp H
             obtain ⟨t461, A850, H⟩ := H
             replace H : (if t461 = true then (laws_FnTempos.j4 kj64 t409 t410 t414 t415) else (some false)) = some r := H
             have A85 := M_ A850
             clear A850
             by_cases c86 : t461 = true
             ·subst c86
              have H1 : (laws_FnTempos.j4 kj64 t409 t410 t414 t415) = some r := by rw [if_pos rfl] at H; exact H
              clear H
              have H := H1
              clear H1
              have H' := M_ H
              clear H
              have hcz87_0 : wc.cell? ⟨gb439, 0, none⟩ = some (.int .i64 t437) := (blk_cell BK439.out 0).trans rfl
              have hcz87_1 : wc.cell? ⟨gb439, 1, none⟩ = some (.int .i64 t438) := (blk_cell BK439.out 1).trans rfl
              have hfz87_0 := blk_frozen BK439.out 0
              have hfz87_1 := blk_frozen BK439.out 1
              obtain ⟨Ao88, co88, eo88⟩ := Kd.R_slice HO_26.out
              subst eo88
              go_wp2_with (first | ((with_reducible refine gate_callee (f := 65) rfl ?_); refine goesL_ (some 242) rfl rfl Try.func65 (by kernel_rfl) rfl #[.slice Ao88 t440.length co88, .int .i64 t437] rfl (by (try simp only [List.map_toArray, List.map_cons, List.map_nil]); first | done | rfl | (simp only [List.length_drop, List.length_take]; rfl)) ?_; (with_reducible refine (impl_TempoAt.calls kj64 _ _ t440 t437 t459 true _ ?side1 ?side2 A82.out).mono ?_); (case side1 => repeat (first | exact (Kd.R_reads' HO_26.out).2.2 | (with_reducible refine Kd.C_alloc ?_ _) | (with_reducible refine Kd.C_drewN ?_ _) | (with_reducible refine Kd.C_drew ?_))); (case side2 => exact (Kd.R_reads' HO_26.out).2.1); rintro e w89 ⟨rfl, hb⟩; refine ⟨_, rfl, ?_⟩; have n0_ := M_ (rb_ (by (with_reducible repeat (first | apply ra_ | apply rn_ | apply rd_)); exact HO_5.out) hb); have n1_ := M_ (rb_ (by (with_reducible repeat (first | apply ra_ | apply rn_ | apply rd_)); exact HO_26.out) hb); have n2_ := M_ (blk_below (g := gb439) (o := .cells #[.int .i64 t437, .int .i64 t438] 48 (0, 0)) (by (with_reducible repeat (first | refine kn_ ?_ _ | refine kd_ ?_ | refine ka_ ?_ _)); exact BK439.out) hb); have n3_ := M_ (below_step (by repeat (first | (with_reducible first | exact HB.out | apply ba_ | apply bn_ | apply b1_ | refine bs_ ?_ GE439.out) | exact HB.out)) hb); clear HO_5; clear HO_26; clear BK439; clear HB; have HO_5 := n0_; have HO_26 := n1_; have BK439 := n2_; have HB := n3_; clear n0_ n1_ n2_ n3_; (try clear hb); (try clear hb2); (try clear hk); (try clear hi); have hcz90_0 : w89.cell? ⟨gb439, 0, none⟩ = some (.int .i64 t437) := (blk_cell BK439.out 0).trans rfl; have hcz90_1 : w89.cell? ⟨gb439, 1, none⟩ = some (.int .i64 t438) := (blk_cell BK439.out 1).trans rfl; have hfz90_0 := blk_frozen BK439.out 0; have hfz90_1 := blk_frozen BK439.out 1) | (go_at_call 66; (with_reducible refine (impl_AreTempos.calls kj64 _ _ t440 true _ ?side1 ?side2 A85.out).mono ?_); (case side1 => repeat (first | exact (Kd.R_reads' HO_26.out).2.2 | (with_reducible refine Kd.C_alloc ?_ _) | (with_reducible refine Kd.C_drewN ?_ _) | (with_reducible refine Kd.C_drew ?_))); (case side2 => exact (Kd.R_reads' HO_26.out).2.1); rintro e w91 ⟨rfl, hb⟩; have n0_ := M_ (rb_ (by (with_reducible repeat (first | apply ra_ | apply rn_ | apply rd_)); exact HO_5.out) hb); have n1_ := M_ (rb_ (by (with_reducible repeat (first | apply ra_ | apply rn_ | apply rd_)); exact HO_26.out) hb); have n2_ := M_ (blk_below (g := gb439) (o := .cells #[.int .i64 t437, .int .i64 t438] 48 (0, 0)) (by (with_reducible repeat (first | refine kn_ ?_ _ | refine kd_ ?_ | refine ka_ ?_ _)); exact BK439.out) hb); have n3_ := M_ (below_step (by repeat (first | (with_reducible first | exact HB.out | apply ba_ | apply bn_ | apply b1_ | refine bs_ ?_ GE439.out) | exact HB.out)) hb); clear HO_5; clear HO_26; clear BK439; clear HB; have HO_5 := n0_; have HO_26 := n1_; have BK439 := n2_; have HB := n3_; clear n0_ n1_ n2_ n3_; (try clear hb); (try clear hb2); (try clear hk); (try clear hi)))
              go_meet
              case rel => exact ⟨_, H', ⟨by have := HJ15.out; have := HJ46.out; have := HJ64.out; first | omega | exact Nat.le_refl _⟩, ⟨by (with_reducible repeat (first | apply ra_ | apply rn_ | apply rd_)); exact rm_ HO_5.out (fun _ hk => hk.2)⟩, ⟨by (with_reducible repeat (first | refine kn_ ?_ _ | refine kd_ ?_ | refine ka_ ?_ _)); exact BK439.out⟩, ⟨by repeat (first | (with_reducible first | exact HB.out | apply ba_ | apply bn_ | apply b1_ | refine bs_ ?_ GE439.out) | exact HB.out)⟩⟩
             ·replace c86 := Bool.eq_false_iff.mpr c86
              subst c86
              have H1 : (some false) = some r := by rw [if_neg (show ¬ (false = true) by decide)] at H; exact H
              clear H
              have H := H1
              clear H1
              obtain rfl := Option.some.inj H
              have hcz92_0 : wc.cell? ⟨gb439, 0, none⟩ = some (.int .i64 t437) := (blk_cell BK439.out 0).trans rfl
              have hcz92_1 : wc.cell? ⟨gb439, 1, none⟩ = some (.int .i64 t438) := (blk_cell BK439.out 1).trans rfl
              have hfz92_0 := blk_frozen BK439.out 0
              have hfz92_1 := blk_frozen BK439.out 1
              obtain ⟨Ao93, co93, eo93⟩ := Kd.R_slice HO_26.out
              subst eo93
              go_wp2_with (first | ((with_reducible refine gate_callee (f := 65) rfl ?_); refine goesL_ (some 242) rfl rfl Try.func65 (by kernel_rfl) rfl #[.slice Ao93 t440.length co93, .int .i64 t437] rfl (by (try simp only [List.map_toArray, List.map_cons, List.map_nil]); first | done | rfl | (simp only [List.length_drop, List.length_take]; rfl)) ?_; (with_reducible refine (impl_TempoAt.calls kj64 _ _ t440 t437 t459 true _ ?side1 ?side2 A82.out).mono ?_); (case side1 => repeat (first | exact (Kd.R_reads' HO_26.out).2.2 | (with_reducible refine Kd.C_alloc ?_ _) | (with_reducible refine Kd.C_drewN ?_ _) | (with_reducible refine Kd.C_drew ?_))); (case side2 => exact (Kd.R_reads' HO_26.out).2.1); rintro e w94 ⟨rfl, hb⟩; refine ⟨_, rfl, ?_⟩; have n0_ := M_ (rb_ (by (with_reducible repeat (first | apply ra_ | apply rn_ | apply rd_)); exact HO_5.out) hb); have n1_ := M_ (rb_ (by (with_reducible repeat (first | apply ra_ | apply rn_ | apply rd_)); exact HO_26.out) hb); have n2_ := M_ (blk_below (g := gb439) (o := .cells #[.int .i64 t437, .int .i64 t438] 48 (0, 0)) (by (with_reducible repeat (first | refine kn_ ?_ _ | refine kd_ ?_ | refine ka_ ?_ _)); exact BK439.out) hb); have n3_ := M_ (below_step (by repeat (first | (with_reducible first | exact HB.out | apply ba_ | apply bn_ | apply b1_ | refine bs_ ?_ GE439.out) | exact HB.out)) hb); clear HO_5; clear HO_26; clear BK439; clear HB; have HO_5 := n0_; have HO_26 := n1_; have BK439 := n2_; have HB := n3_; clear n0_ n1_ n2_ n3_; (try clear hb); (try clear hb2); (try clear hk); (try clear hi); have hcz95_0 : w94.cell? ⟨gb439, 0, none⟩ = some (.int .i64 t437) := (blk_cell BK439.out 0).trans rfl; have hcz95_1 : w94.cell? ⟨gb439, 1, none⟩ = some (.int .i64 t438) := (blk_cell BK439.out 1).trans rfl; have hfz95_0 := blk_frozen BK439.out 0; have hfz95_1 := blk_frozen BK439.out 1) | (go_at_call 66; (with_reducible refine (impl_AreTempos.calls kj64 _ _ t440 false _ ?side1 ?side2 A85.out).mono ?_); (case side1 => repeat (first | exact (Kd.R_reads' HO_26.out).2.2 | (with_reducible refine Kd.C_alloc ?_ _) | (with_reducible refine Kd.C_drewN ?_ _) | (with_reducible refine Kd.C_drew ?_))); (case side2 => exact (Kd.R_reads' HO_26.out).2.1); rintro e w96 ⟨rfl, hb⟩; have n0_ := M_ (rb_ (by (with_reducible repeat (first | apply ra_ | apply rn_ | apply rd_)); exact HO_5.out) hb); have n1_ := M_ (rb_ (by (with_reducible repeat (first | apply ra_ | apply rn_ | apply rd_)); exact HO_26.out) hb); have n2_ := M_ (blk_below (g := gb439) (o := .cells #[.int .i64 t437, .int .i64 t438] 48 (0, 0)) (by (with_reducible repeat (first | refine kn_ ?_ _ | refine kd_ ?_ | refine ka_ ?_ _)); exact BK439.out) hb); have n3_ := M_ (below_step (by repeat (first | (with_reducible first | exact HB.out | apply ba_ | apply bn_ | apply b1_ | refine bs_ ?_ GE439.out) | exact HB.out)) hb); clear HO_5; clear HO_26; clear BK439; clear HB; have HO_5 := n0_; have HO_26 := n1_; have BK439 := n2_; have HB := n3_; clear n0_ n1_ n2_ n3_; (try clear hb); (try clear hb2); (try clear hk); (try clear hi)))
              go_ret
              exact ⟨by first | rfl | (simp [errW_none, errW_some] <;> rfl) | (simp [*, errW_none, errW_some] <;> rfl), by repeat (first | (with_reducible first | exact HB.out | apply ba_ | apply bn_ | apply b1_ | refine bs_ ?_ GE439.out) | exact HB.out)⟩
            ·rw [if_neg c84] at H
             have c84b0 : (t459 == t438) = false := beq_eq_false_iff_ne.mpr c84
             have c84b1 : (t459 != t438) = true := bne_iff_ne.mpr c84
             (first | rw [c84b0] | (simp only [i64_w, i32_w]; rw [c84b0]) | skip)
             obtain rfl := Option.some.inj H
             have hcz97_0 : wc.cell? ⟨gb439, 0, none⟩ = some (.int .i64 t437) := (blk_cell BK439.out 0).trans rfl
             have hcz97_1 : wc.cell? ⟨gb439, 1, none⟩ = some (.int .i64 t438) := (blk_cell BK439.out 1).trans rfl
             have hfz97_0 := blk_frozen BK439.out 0
             have hfz97_1 := blk_frozen BK439.out 1
             obtain ⟨Ao98, co98, eo98⟩ := Kd.R_slice HO_26.out
             subst eo98
             go_wp2_with (first | ((with_reducible refine gate_callee (f := 65) rfl ?_); refine goesL_ (some 242) rfl rfl Try.func65 (by kernel_rfl) rfl #[.slice Ao98 t440.length co98, .int .i64 t437] rfl (by (try simp only [List.map_toArray, List.map_cons, List.map_nil]); first | done | rfl | (simp only [List.length_drop, List.length_take]; rfl)) ?_; (with_reducible refine (impl_TempoAt.calls kj64 _ _ t440 t437 t459 true _ ?side1 ?side2 A82.out).mono ?_); (case side1 => repeat (first | exact (Kd.R_reads' HO_26.out).2.2 | (with_reducible refine Kd.C_alloc ?_ _) | (with_reducible refine Kd.C_drewN ?_ _) | (with_reducible refine Kd.C_drew ?_))); (case side2 => exact (Kd.R_reads' HO_26.out).2.1); rintro e w99 ⟨rfl, hb⟩; refine ⟨_, rfl, ?_⟩; have n0_ := M_ (rb_ (by (with_reducible repeat (first | apply ra_ | apply rn_ | apply rd_)); exact HO_5.out) hb); have n1_ := M_ (rb_ (by (with_reducible repeat (first | apply ra_ | apply rn_ | apply rd_)); exact HO_26.out) hb); have n2_ := M_ (blk_below (g := gb439) (o := .cells #[.int .i64 t437, .int .i64 t438] 48 (0, 0)) (by (with_reducible repeat (first | refine kn_ ?_ _ | refine kd_ ?_ | refine ka_ ?_ _)); exact BK439.out) hb); have n3_ := M_ (below_step (by repeat (first | (with_reducible first | exact HB.out | apply ba_ | apply bn_ | apply b1_ | refine bs_ ?_ GE439.out) | exact HB.out)) hb); clear HO_5; clear HO_26; clear BK439; clear HB; have HO_5 := n0_; have HO_26 := n1_; have BK439 := n2_; have HB := n3_; clear n0_ n1_ n2_ n3_; (try clear hb); (try clear hb2); (try clear hk); (try clear hi); have hcz100_0 : w99.cell? ⟨gb439, 0, none⟩ = some (.int .i64 t437) := (blk_cell BK439.out 0).trans rfl; have hcz100_1 : w99.cell? ⟨gb439, 1, none⟩ = some (.int .i64 t438) := (blk_cell BK439.out 1).trans rfl; have hfz100_0 := blk_frozen BK439.out 0; have hfz100_1 := blk_frozen BK439.out 1))
             go_ret
             exact ⟨by first | rfl | (simp [errW_none, errW_some] <;> rfl) | (simp [*, errW_none, errW_some] <;> rfl), by repeat (first | (with_reducible first | exact HB.out | apply ba_ | apply bn_ | apply b1_ | refine bs_ ?_ GE439.out) | exact HB.out)⟩
           ·replace c83 := Bool.eq_false_iff.mpr c83
            subst c83
            have H1 : (some false) = some r := by rw [if_neg (show ¬ (false = true) by decide)] at H; exact H
            clear H
            have H := H1
            clear H1
            obtain rfl := Option.some.inj H
            have hcz101_0 : wc.cell? ⟨gb439, 0, none⟩ = some (.int .i64 t437) := (blk_cell BK439.out 0).trans rfl
            have hcz101_1 : wc.cell? ⟨gb439, 1, none⟩ = some (.int .i64 t438) := (blk_cell BK439.out 1).trans rfl
            have hfz101_0 := blk_frozen BK439.out 0
            have hfz101_1 := blk_frozen BK439.out 1
            obtain ⟨Ao102, co102, eo102⟩ := Kd.R_slice HO_26.out
            subst eo102
            go_wp2_with (first | ((with_reducible refine gate_callee (f := 65) rfl ?_); refine goesL_ (some 242) rfl rfl Try.func65 (by kernel_rfl) rfl #[.slice Ao102 t440.length co102, .int .i64 t437] rfl (by (try simp only [List.map_toArray, List.map_cons, List.map_nil]); first | done | rfl | (simp only [List.length_drop, List.length_take]; rfl)) ?_; (with_reducible refine (impl_TempoAt.calls kj64 _ _ t440 t437 t459 false _ ?side1 ?side2 A82.out).mono ?_); (case side1 => repeat (first | exact (Kd.R_reads' HO_26.out).2.2 | (with_reducible refine Kd.C_alloc ?_ _) | (with_reducible refine Kd.C_drewN ?_ _) | (with_reducible refine Kd.C_drew ?_))); (case side2 => exact (Kd.R_reads' HO_26.out).2.1); rintro e w103 ⟨rfl, hb⟩; refine ⟨_, rfl, ?_⟩; have n0_ := M_ (rb_ (by (with_reducible repeat (first | apply ra_ | apply rn_ | apply rd_)); exact HO_5.out) hb); have n1_ := M_ (rb_ (by (with_reducible repeat (first | apply ra_ | apply rn_ | apply rd_)); exact HO_26.out) hb); have n2_ := M_ (blk_below (g := gb439) (o := .cells #[.int .i64 t437, .int .i64 t438] 48 (0, 0)) (by (with_reducible repeat (first | refine kn_ ?_ _ | refine kd_ ?_ | refine ka_ ?_ _)); exact BK439.out) hb); have n3_ := M_ (below_step (by repeat (first | (with_reducible first | exact HB.out | apply ba_ | apply bn_ | apply b1_ | refine bs_ ?_ GE439.out) | exact HB.out)) hb); clear HO_5; clear HO_26; clear BK439; clear HB; have HO_5 := n0_; have HO_26 := n1_; have BK439 := n2_; have HB := n3_; clear n0_ n1_ n2_ n3_; (try clear hb); (try clear hb2); (try clear hk); (try clear hi)))
            go_ret
            exact ⟨by first | rfl | (simp [errW_none, errW_some] <;> rfl) | (simp [*, errW_none, errW_some] <;> rfl), by repeat (first | (with_reducible first | exact HB.out | apply ba_ | apply bn_ | apply b1_ | refine bs_ ?_ GE439.out) | exact HB.out)⟩
          ·replace c81 := Bool.eq_false_iff.mpr c81
           subst c81
           have H1 : (laws_FnTempos.j4 kj64 t409 t410 t414 t415) = some r := by rw [if_neg (show ¬ (false = true) by decide)] at H; exact H
           clear H
           have H := H1
           clear H1
           have H' := M_ H
           clear H
           go_wp2
           go_meet
           case rel => exact ⟨_, H', ⟨by have := HJ15.out; have := HJ46.out; have := HJ64.out; first | omega | exact Nat.le_refl _⟩, ⟨by (with_reducible repeat (first | apply ra_ | apply rn_ | apply rd_)); exact rm_ HO_5.out (fun _ hk => hk.2)⟩, ⟨by (with_reducible repeat (first | refine kn_ ?_ _ | refine kd_ ?_ | refine ka_ ?_ _)); exact BK439.out⟩, ⟨by repeat (first | (with_reducible first | exact HB.out | apply ba_ | apply bn_ | apply b1_ | refine bs_ ?_ GE439.out) | exact HB.out)⟩⟩
         case rest => as_aux_lemma =>
          clear HC80
          try clear c1
          try clear c2
          try clear p2
          try clear c3
          try clear c3b0
          try clear c4
          try clear c5
          try clear c6
          try clear p6
          try clear c7
          try clear c8
          try clear c12
          try clear c28
          try clear c31
          try clear c36
          try clear c36b0
          try clear c36b1
          try clear c36b2
          try clear c37
          try clear c37b0
          try clear c37b1
          try clear c38
          try clear c38b0
          try clear c38b1
          try clear c38b2
          try clear c39
          try clear c39b0
          try clear c39b1
          try clear c40
          try clear c40b0
          try clear c40b1
          try clear c40b2
          try clear c41
          try clear c41b0
          try clear c41b1
          try clear c42
          try clear c42b0
          try clear c42b1
          try clear c42b2
          try clear c46
          try clear c48
          try clear c54
          try clear c55
          try clear c56
          try clear c56b0
          try clear c56b1
          try clear c57
          try clear c58
          try clear c58b0
          try clear c59
          try clear c60
          try clear c61
          try clear c61b0
          try clear c62
          try clear c63
          try clear p64
          try clear c65
          try clear c66
          try clear c69
          try clear c70
          try clear c71
          try clear c71b0
          try clear c71b1
          try clear c81
          try clear c83
          try clear c84
          try clear c84b0
          try clear c84b1
          try clear c86
          try clear hcz100_0
          try clear hcz100_1
          try clear hcz101_0
          try clear hcz101_1
          try clear hcz31_0
          try clear hcz31_1
          try clear hcz34_0
          try clear hcz34_1
          try clear hcz87_0
          try clear hcz87_1
          try clear hcz90_0
          try clear hcz90_1
          try clear hcz92_0
          try clear hcz92_1
          try clear hcz95_0
          try clear hcz95_1
          try clear hcz97_0
          try clear hcz97_1
          try clear hfz100_0
          try clear hfz100_1
          try clear hfz101_0
          try clear hfz101_1
          try clear hfz31_0
          try clear hfz31_1
          try clear hfz34_0
          try clear hfz34_1
          try clear hfz87_0
          try clear hfz87_1
          try clear hfz90_0
          try clear hfz90_1
          try clear hfz92_0
          try clear hfz92_1
          try clear hfz95_0
          try clear hfz95_1
          try clear hfz97_0
          try clear hfz97_1
          try clear p2
          try clear p6
          try clear p64
          obtain ⟨kq, HA, HJ79, HO_5, BK439, HB⟩ := hcut
          cases kq with
          | zero => exact absurd HA.out (by simp [laws_FnTempos.j4])
          | succ kj79 =>
           have H := HA.out
           clear HA
           simp only [laws_FnTempos.j4] at H
           have HC104 := M_ H
           clear H
           go_upto_region 35 with (fail)
           go_cut [263] (fun v263 wc => ∃ (kq : Nat) (x263_103 : Bool), v263 = .bool x263_103 ∧ Aside0 (laws_FnTempos.j5 kq t409 t410 t415 x263_103 = some r) ∧ Aside0 (kq ≤ kj79) ∧ Aside0 (Kd.R k48 48 wc w.heap.size (fun k_ => k_ ≠ gb439) (.slice Ao18 t409.length co18) t409) ∧ Aside0 (wc.heap[gb439]? = some (.cells #[.int .i64 t437, .int .i64 t438] 48 (0, 0))) ∧ Aside0 (Below w.heap.size w wc))
           case first => as_aux_lemma =>
            have H := HC104.out
            clear HC104
            by_cases c105 : t414 = true
            ·subst c105
             have H1 : (laws_FnTempos.j5 kj79 t409 t410 t415 (t410 == 2000)) = some r := by rw [if_pos rfl] at H; exact H
             clear H
             have H := H1
             clear H1
             have H' := M_ H
             clear H
             go_wp2
             go_meet
             case rel => exact ⟨_, ((t410 == 2000)), (by first | rfl | (simp; done) | (simp [*]; done)), H', ⟨by have := HJ15.out; have := HJ46.out; have := HJ64.out; have := HJ79.out; first | omega | exact Nat.le_refl _⟩, ⟨by (with_reducible repeat (first | apply ra_ | apply rn_ | apply rd_)); exact HO_5.out⟩, ⟨by (with_reducible repeat (first | refine kn_ ?_ _ | refine kd_ ?_ | refine ka_ ?_ _)); exact BK439.out⟩, ⟨by repeat (first | (with_reducible first | exact HB.out | apply ba_ | apply bn_ | apply b1_ | refine bs_ ?_ GE439.out) | exact HB.out)⟩⟩
            ·replace c105 := Bool.eq_false_iff.mpr c105
             subst c105
             have H1 : (laws_FnTempos.j5 kj79 t409 t410 t415 true) = some r := by rw [if_neg (show ¬ (false = true) by decide)] at H; exact H
             clear H
             have H := H1
             clear H1
             have H' := M_ H
             clear H
             go_wp2
             go_meet
             case rel => exact ⟨_, (true), (by first | rfl | (simp; done) | (simp [*]; done)), H', ⟨by have := HJ15.out; have := HJ46.out; have := HJ64.out; have := HJ79.out; first | omega | exact Nat.le_refl _⟩, ⟨by (with_reducible repeat (first | apply ra_ | apply rn_ | apply rd_)); exact HO_5.out⟩, ⟨by (with_reducible repeat (first | refine kn_ ?_ _ | refine kd_ ?_ | refine ka_ ?_ _)); exact BK439.out⟩, ⟨by repeat (first | (with_reducible first | exact HB.out | apply ba_ | apply bn_ | apply b1_ | refine bs_ ?_ GE439.out) | exact HB.out)⟩⟩
           case rest => as_aux_lemma =>
            clear HC104
            try clear c1
            try clear c2
            try clear p2
            try clear c3
            try clear c3b0
            try clear c4
            try clear c5
            try clear c6
            try clear p6
            try clear c7
            try clear c8
            try clear c10
            try clear c12
            try clear c28
            try clear c31
            try clear c36
            try clear c36b0
            try clear c36b1
            try clear c36b2
            try clear c37
            try clear c37b0
            try clear c37b1
            try clear c38
            try clear c38b0
            try clear c38b1
            try clear c38b2
            try clear c39
            try clear c39b0
            try clear c39b1
            try clear c40
            try clear c40b0
            try clear c40b1
            try clear c40b2
            try clear c41
            try clear c41b0
            try clear c41b1
            try clear c42
            try clear c42b0
            try clear c42b1
            try clear c42b2
            try clear c46
            try clear c48
            try clear c54
            try clear c55
            try clear c56
            try clear c56b0
            try clear c56b1
            try clear c57
            try clear c58
            try clear c58b0
            try clear c59
            try clear c60
            try clear c61
            try clear c61b0
            try clear c62
            try clear c63
            try clear p64
            try clear c65
            try clear c66
            try clear c69
            try clear c70
            try clear c71
            try clear c71b0
            try clear c71b1
            try clear c81
            try clear c83
            try clear c84
            try clear c84b0
            try clear c84b1
            try clear c86
            try clear c105
            try clear hcz100_0
            try clear hcz100_1
            try clear hcz101_0
            try clear hcz101_1
            try clear hcz31_0
            try clear hcz31_1
            try clear hcz34_0
            try clear hcz34_1
            try clear hcz87_0
            try clear hcz87_1
            try clear hcz90_0
            try clear hcz90_1
            try clear hcz92_0
            try clear hcz92_1
            try clear hcz95_0
            try clear hcz95_1
            try clear hcz97_0
            try clear hcz97_1
            try clear hfz100_0
            try clear hfz100_1
            try clear hfz101_0
            try clear hfz101_1
            try clear hfz31_0
            try clear hfz31_1
            try clear hfz34_0
            try clear hfz34_1
            try clear hfz87_0
            try clear hfz87_1
            try clear hfz90_0
            try clear hfz90_1
            try clear hfz92_0
            try clear hfz92_1
            try clear hfz95_0
            try clear hfz95_1
            try clear hfz97_0
            try clear hfz97_1
            try clear p2
            try clear p6
            try clear p64
            obtain ⟨kq, x263_103, rfl, HA, HJ103, HO_5, BK439, HB⟩ := hcut
            cases kq with
            | zero => exact absurd HA.out (by simp [laws_FnTempos.j5])
            | succ kj103 =>
             have H := HA.out
             clear HA
             simp only [laws_FnTempos.j5] at H
             by_cases c106 : x263_103 = true
             ·subst c106
              have H1 : (some true) = some r := by rw [if_pos rfl] at H; exact H
              clear H
              have H := H1
              clear H1
              obtain rfl := Option.some.inj H
              go_wp2
              go_ret
              exact ⟨by first | rfl | (simp [errW_none, errW_some] <;> rfl) | (simp [*, errW_none, errW_some] <;> rfl), by repeat (first | (with_reducible first | exact HB.out | apply ba_ | apply bn_ | apply b1_ | refine bs_ ?_ GE439.out) | exact HB.out)⟩
             ·replace c106 := Bool.eq_false_iff.mpr c106
              subst c106
              have H1 : ((impl_TempoAt.f kj103 t409 t410).bind fun bt462 => ((spec_TempoAt.f kj103 t409 t410).bind fun bt464 => ((impl_TimeOf.f kj103 t409 (wrap64 (t410 + 1))).bind fun bt466 => ((impl_StepAtTime.f kj103 t409 t415).bind fun bt468 => (if bt462.2 = true then (if bt464.2 = true then (if bt462.1 = bt464.1 then (if bt466.2 = true then (if bt466.1 = (wrap64 (t415 + bt464.1)) then (if bt468.2 = true then (some (bt468.1 == t410)) else (some false)) else (some false)) else (some false)) else (some false)) else (some false)) else (some false)))))) = some r := by rw [if_neg (show ¬ (false = true) by decide)] at H; exact H
              clear H
              have H := H1
              clear H1
              replace H := Option.bind_eq_some_iff.mp H
              obtain ⟨⟨t462, t463⟩, A1070, H⟩ := H
              replace H : ((spec_TempoAt.f kj103 t409 t410).bind fun bt464 => ((impl_TimeOf.f kj103 t409 (wrap64 (t410 + 1))).bind fun bt466 => ((impl_StepAtTime.f kj103 t409 t415).bind fun bt468 => (if t463 = true then (if bt464.2 = true then (if t462 = bt464.1 then (if bt466.2 = true then (if bt466.1 = (wrap64 (t415 + bt464.1)) then (if bt468.2 = true then (some (bt468.1 == t410)) else (some false)) else (some false)) else (some false)) else (some false)) else (some false)) else (some false))))) = some r := H
              have A107 := M_ A1070
              clear A1070
              replace H := Option.bind_eq_some_iff.mp H
              obtain ⟨⟨t464, t465⟩, A1080, H⟩ := H
              replace H : ((impl_TimeOf.f kj103 t409 (wrap64 (t410 + 1))).bind fun bt466 => ((impl_StepAtTime.f kj103 t409 t415).bind fun bt468 => (if t463 = true then (if t465 = true then (if t462 = t464 then (if bt466.2 = true then (if bt466.1 = (wrap64 (t415 + t464)) then (if bt468.2 = true then (some (bt468.1 == t410)) else (some false)) else (some false)) else (some false)) else (some false)) else (some false)) else (some false)))) = some r := H
              have A108 := M_ A1080
              clear A1080
              replace H := Option.bind_eq_some_iff.mp H
              obtain ⟨⟨t466, t467⟩, A1090, H⟩ := H
              replace H : ((impl_StepAtTime.f kj103 t409 t415).bind fun bt468 => (if t463 = true then (if t465 = true then (if t462 = t464 then (if t467 = true then (if t466 = (wrap64 (t415 + t464)) then (if bt468.2 = true then (some (bt468.1 == t410)) else (some false)) else (some false)) else (some false)) else (some false)) else (some false)) else (some false))) = some r := H
              have A109 := M_ A1090
              clear A1090
              replace H := Option.bind_eq_some_iff.mp H
              obtain ⟨⟨t468, t469⟩, A1100, H⟩ := H
              replace H : (if t463 = true then (if t465 = true then (if t462 = t464 then (if t467 = true then (if t466 = (wrap64 (t415 + t464)) then (if t469 = true then (some (t468 == t410)) else (some false)) else (some false)) else (some false)) else (some false)) else (some false)) else (some false)) = some r := H
              have A110 := M_ A1100
              clear A1100
              by_cases c111 : t463 = true
              ·subst c111
               have H1 : (if t465 = true then (if t462 = t464 then (if t467 = true then (if t466 = (wrap64 (t415 + t464)) then (if t469 = true then (some (t468 == t410)) else (some false)) else (some false)) else (some false)) else (some false)) else (some false)) = some r := by rw [if_pos rfl] at H; exact H
               clear H
               have H := H1
               clear H1
               by_cases c112 : t465 = true
               ·subst c112
                have H1 : (if t462 = t464 then (if t467 = true then (if t466 = (wrap64 (t415 + t464)) then (if t469 = true then (some (t468 == t410)) else (some false)) else (some false)) else (some false)) else (some false)) = some r := by rw [if_pos rfl] at H; exact H
                clear H
                have H := H1
                clear H1
                by_cases c113 : t462 = t464
                ·rw [if_pos c113] at H
                 have c113b0 : (t462 == t464) = true := beq_iff_eq.mpr c113
                 have c113b1 : (t462 != t464) = false := bne_eq_false_iff_eq.mpr c113
                 clear c113
                 by_cases c114 : t467 = true
                 ·subst c114
                  have H1 : (if t466 = (wrap64 (t415 + t464)) then (if t469 = true then (some (t468 == t410)) else (some false)) else (some false)) = some r := by rw [if_pos rfl] at H; exact H
                  clear H
                  have H := H1
                  clear H1
                  by_cases c115 : t466 = (wrap64 (t415 + t464))
                  ·rw [if_pos c115] at H
                   have c115b0 : (t466 == (wrap64 (t415 + t464))) = true := beq_iff_eq.mpr c115
                   have c115b1 : (t466 != (wrap64 (t415 + t464))) = false := bne_eq_false_iff_eq.mpr c115
                   clear c115
                   by_cases c116 : t469 = true
                   ·subst c116
                    have H1 : (some (t468 == t410)) = some r := by rw [if_pos rfl] at H; exact H
                    clear H
                    have H := H1
                    clear H1
                    obtain rfl := Option.some.inj H
                    go_wp2_with (first | ((with_reducible refine gate_callee (f := 65) rfl ?_); refine goesL_ (some 267) rfl rfl Try.func65 (by kernel_rfl) rfl #[.slice Ao18 t409.length co18, .int .i64 t410] rfl (by (try simp only [List.map_toArray, List.map_cons, List.map_nil]); first | done | rfl | (simp only [List.length_drop, List.length_take]; rfl)) ?_; (with_reducible refine (impl_TempoAt.calls kj103 _ _ t409 t410 t462 true _ ?side1 ?side2 A107.out).mono ?_); (case side1 => repeat (first | exact (Kd.R_reads' HO_5.out).2.2 | (with_reducible refine Kd.C_alloc ?_ _) | (with_reducible refine Kd.C_drewN ?_ _) | (with_reducible refine Kd.C_drew ?_))); (case side2 => exact (Kd.R_reads' HO_5.out).2.1); rintro e w117 ⟨rfl, hb⟩; refine ⟨_, rfl, ?_⟩; have n0_ := M_ (rb_ (by (with_reducible repeat (first | apply ra_ | apply rn_ | apply rd_)); exact HO_5.out) hb); have n1_ := M_ (blk_below (g := gb439) (o := .cells #[.int .i64 t437, .int .i64 t438] 48 (0, 0)) (by (with_reducible repeat (first | refine kn_ ?_ _ | refine kd_ ?_ | refine ka_ ?_ _)); exact BK439.out) hb); have n2_ := M_ (below_step (by repeat (first | (with_reducible first | exact HB.out | apply ba_ | apply bn_ | apply b1_ | refine bs_ ?_ GE439.out) | exact HB.out)) hb); clear HO_5; clear BK439; clear HB; have HO_5 := n0_; have BK439 := n1_; have HB := n2_; clear n0_ n1_ n2_; (try clear hb); (try clear hb2); (try clear hk); (try clear hi)) | ((with_reducible refine gate_callee (f := 67) rfl ?_); refine goesL_ (some 273) rfl rfl Try.func67 (by kernel_rfl) rfl #[.slice Ao18 t409.length co18, .int .i64 t410] rfl (by (try simp only [List.map_toArray, List.map_cons, List.map_nil]); first | done | rfl | (simp only [List.length_drop, List.length_take]; rfl)) ?_; (with_reducible refine (spec_TempoAt.calls kj103 _ _ t409 t410 t464 true _ ?side1 ?side2 A108.out).mono ?_); (case side1 => repeat (first | exact (Kd.R_reads' HO_5.out).2.2 | (with_reducible refine Kd.C_alloc ?_ _) | (with_reducible refine Kd.C_drewN ?_ _) | (with_reducible refine Kd.C_drew ?_))); (case side2 => exact (Kd.R_reads' HO_5.out).2.1); rintro e w118 ⟨rfl, hb⟩; refine ⟨_, rfl, ?_⟩; have n0_ := M_ (rb_ (by (with_reducible repeat (first | apply ra_ | apply rn_ | apply rd_)); exact HO_5.out) hb); have n1_ := M_ (blk_below (g := gb439) (o := .cells #[.int .i64 t437, .int .i64 t438] 48 (0, 0)) (by (with_reducible repeat (first | refine kn_ ?_ _ | refine kd_ ?_ | refine ka_ ?_ _)); exact BK439.out) hb); have n2_ := M_ (below_step (by repeat (first | (with_reducible first | exact HB.out | apply ba_ | apply bn_ | apply b1_ | refine bs_ ?_ GE439.out) | exact HB.out)) hb); clear HO_5; clear BK439; clear HB; have HO_5 := n0_; have BK439 := n1_; have HB := n2_; clear n0_ n1_ n2_; (try clear hb); (try clear hb2); (try clear hk); (try clear hi)) | ((with_reducible refine gate_callee (f := 55) rfl ?_); refine goesL_ (some 280) rfl rfl Try.func55 (by kernel_rfl) rfl #[.slice Ao18 t409.length co18, .int .i64 (wrap64 (t410 + 1))] rfl (by (try simp only [List.map_toArray, List.map_cons, List.map_nil]); first | done | rfl | (simp only [List.length_drop, List.length_take]; rfl)) ?_; (with_reducible refine (impl_TimeOf.calls kj103 _ _ t409 (wrap64 (t410 + 1)) t466 true _ ?side1 ?side2 A109.out).mono ?_); (case side1 => repeat (first | exact (Kd.R_reads' HO_5.out).2.2 | (with_reducible refine Kd.C_alloc ?_ _) | (with_reducible refine Kd.C_drewN ?_ _) | (with_reducible refine Kd.C_drew ?_))); (case side2 => exact (Kd.R_reads' HO_5.out).2.1); rintro e w119 ⟨rfl, hb⟩; refine ⟨_, rfl, ?_⟩; have n0_ := M_ (rb_ (by (with_reducible repeat (first | apply ra_ | apply rn_ | apply rd_)); exact HO_5.out) hb); have n1_ := M_ (blk_below (g := gb439) (o := .cells #[.int .i64 t437, .int .i64 t438] 48 (0, 0)) (by (with_reducible repeat (first | refine kn_ ?_ _ | refine kd_ ?_ | refine ka_ ?_ _)); exact BK439.out) hb); have n2_ := M_ (below_step (by repeat (first | (with_reducible first | exact HB.out | apply ba_ | apply bn_ | apply b1_ | refine bs_ ?_ GE439.out) | exact HB.out)) hb); clear HO_5; clear BK439; clear HB; have HO_5 := n0_; have BK439 := n1_; have HB := n2_; clear n0_ n1_ n2_; (try clear hb); (try clear hb2); (try clear hk); (try clear hi)) | ((with_reducible refine gate_callee (f := 58) rfl ?_); refine goesL_ (some 286) rfl rfl Try.func58 (by kernel_rfl) rfl #[.slice Ao18 t409.length co18, .int .i64 t415] rfl (by (try simp only [List.map_toArray, List.map_cons, List.map_nil]); first | done | rfl | (simp only [List.length_drop, List.length_take]; rfl)) ?_; (with_reducible refine (impl_StepAtTime.calls kj103 _ _ t409 t415 t468 true _ ?side1 ?side2 A110.out).mono ?_); (case side1 => repeat (first | exact (Kd.R_reads' HO_5.out).2.2 | (with_reducible refine Kd.C_alloc ?_ _) | (with_reducible refine Kd.C_drewN ?_ _) | (with_reducible refine Kd.C_drew ?_))); (case side2 => exact (Kd.R_reads' HO_5.out).2.1); rintro e w120 ⟨rfl, hb⟩; refine ⟨_, rfl, ?_⟩; have n0_ := M_ (rb_ (by (with_reducible repeat (first | apply ra_ | apply rn_ | apply rd_)); exact HO_5.out) hb); have n1_ := M_ (blk_below (g := gb439) (o := .cells #[.int .i64 t437, .int .i64 t438] 48 (0, 0)) (by (with_reducible repeat (first | refine kn_ ?_ _ | refine kd_ ?_ | refine ka_ ?_ _)); exact BK439.out) hb); have n2_ := M_ (below_step (by repeat (first | (with_reducible first | exact HB.out | apply ba_ | apply bn_ | apply b1_ | refine bs_ ?_ GE439.out) | exact HB.out)) hb); clear HO_5; clear BK439; clear HB; have HO_5 := n0_; have BK439 := n1_; have HB := n2_; clear n0_ n1_ n2_; (try clear hb); (try clear hb2); (try clear hk); (try clear hi)))
                    go_ret
                    exact ⟨by first | rfl | (simp [errW_none, errW_some] <;> rfl) | (simp [*, errW_none, errW_some] <;> rfl), by repeat (first | (with_reducible first | exact HB.out | apply ba_ | apply bn_ | apply b1_ | refine bs_ ?_ GE439.out) | exact HB.out)⟩
                   ·replace c116 := Bool.eq_false_iff.mpr c116
                    subst c116
                    have H1 : (some false) = some r := by rw [if_neg (show ¬ (false = true) by decide)] at H; exact H
                    clear H
                    have H := H1
                    clear H1
                    obtain rfl := Option.some.inj H
                    go_wp2_with (first | ((with_reducible refine gate_callee (f := 65) rfl ?_); refine goesL_ (some 267) rfl rfl Try.func65 (by kernel_rfl) rfl #[.slice Ao18 t409.length co18, .int .i64 t410] rfl (by (try simp only [List.map_toArray, List.map_cons, List.map_nil]); first | done | rfl | (simp only [List.length_drop, List.length_take]; rfl)) ?_; (with_reducible refine (impl_TempoAt.calls kj103 _ _ t409 t410 t462 true _ ?side1 ?side2 A107.out).mono ?_); (case side1 => repeat (first | exact (Kd.R_reads' HO_5.out).2.2 | (with_reducible refine Kd.C_alloc ?_ _) | (with_reducible refine Kd.C_drewN ?_ _) | (with_reducible refine Kd.C_drew ?_))); (case side2 => exact (Kd.R_reads' HO_5.out).2.1); rintro e w121 ⟨rfl, hb⟩; refine ⟨_, rfl, ?_⟩; have n0_ := M_ (rb_ (by (with_reducible repeat (first | apply ra_ | apply rn_ | apply rd_)); exact HO_5.out) hb); have n1_ := M_ (blk_below (g := gb439) (o := .cells #[.int .i64 t437, .int .i64 t438] 48 (0, 0)) (by (with_reducible repeat (first | refine kn_ ?_ _ | refine kd_ ?_ | refine ka_ ?_ _)); exact BK439.out) hb); have n2_ := M_ (below_step (by repeat (first | (with_reducible first | exact HB.out | apply ba_ | apply bn_ | apply b1_ | refine bs_ ?_ GE439.out) | exact HB.out)) hb); clear HO_5; clear BK439; clear HB; have HO_5 := n0_; have BK439 := n1_; have HB := n2_; clear n0_ n1_ n2_; (try clear hb); (try clear hb2); (try clear hk); (try clear hi)) | ((with_reducible refine gate_callee (f := 67) rfl ?_); refine goesL_ (some 273) rfl rfl Try.func67 (by kernel_rfl) rfl #[.slice Ao18 t409.length co18, .int .i64 t410] rfl (by (try simp only [List.map_toArray, List.map_cons, List.map_nil]); first | done | rfl | (simp only [List.length_drop, List.length_take]; rfl)) ?_; (with_reducible refine (spec_TempoAt.calls kj103 _ _ t409 t410 t464 true _ ?side1 ?side2 A108.out).mono ?_); (case side1 => repeat (first | exact (Kd.R_reads' HO_5.out).2.2 | (with_reducible refine Kd.C_alloc ?_ _) | (with_reducible refine Kd.C_drewN ?_ _) | (with_reducible refine Kd.C_drew ?_))); (case side2 => exact (Kd.R_reads' HO_5.out).2.1); rintro e w122 ⟨rfl, hb⟩; refine ⟨_, rfl, ?_⟩; have n0_ := M_ (rb_ (by (with_reducible repeat (first | apply ra_ | apply rn_ | apply rd_)); exact HO_5.out) hb); have n1_ := M_ (blk_below (g := gb439) (o := .cells #[.int .i64 t437, .int .i64 t438] 48 (0, 0)) (by (with_reducible repeat (first | refine kn_ ?_ _ | refine kd_ ?_ | refine ka_ ?_ _)); exact BK439.out) hb); have n2_ := M_ (below_step (by repeat (first | (with_reducible first | exact HB.out | apply ba_ | apply bn_ | apply b1_ | refine bs_ ?_ GE439.out) | exact HB.out)) hb); clear HO_5; clear BK439; clear HB; have HO_5 := n0_; have BK439 := n1_; have HB := n2_; clear n0_ n1_ n2_; (try clear hb); (try clear hb2); (try clear hk); (try clear hi)) | ((with_reducible refine gate_callee (f := 55) rfl ?_); refine goesL_ (some 280) rfl rfl Try.func55 (by kernel_rfl) rfl #[.slice Ao18 t409.length co18, .int .i64 (wrap64 (t410 + 1))] rfl (by (try simp only [List.map_toArray, List.map_cons, List.map_nil]); first | done | rfl | (simp only [List.length_drop, List.length_take]; rfl)) ?_; (with_reducible refine (impl_TimeOf.calls kj103 _ _ t409 (wrap64 (t410 + 1)) t466 true _ ?side1 ?side2 A109.out).mono ?_); (case side1 => repeat (first | exact (Kd.R_reads' HO_5.out).2.2 | (with_reducible refine Kd.C_alloc ?_ _) | (with_reducible refine Kd.C_drewN ?_ _) | (with_reducible refine Kd.C_drew ?_))); (case side2 => exact (Kd.R_reads' HO_5.out).2.1); rintro e w123 ⟨rfl, hb⟩; refine ⟨_, rfl, ?_⟩; have n0_ := M_ (rb_ (by (with_reducible repeat (first | apply ra_ | apply rn_ | apply rd_)); exact HO_5.out) hb); have n1_ := M_ (blk_below (g := gb439) (o := .cells #[.int .i64 t437, .int .i64 t438] 48 (0, 0)) (by (with_reducible repeat (first | refine kn_ ?_ _ | refine kd_ ?_ | refine ka_ ?_ _)); exact BK439.out) hb); have n2_ := M_ (below_step (by repeat (first | (with_reducible first | exact HB.out | apply ba_ | apply bn_ | apply b1_ | refine bs_ ?_ GE439.out) | exact HB.out)) hb); clear HO_5; clear BK439; clear HB; have HO_5 := n0_; have BK439 := n1_; have HB := n2_; clear n0_ n1_ n2_; (try clear hb); (try clear hb2); (try clear hk); (try clear hi)) | ((with_reducible refine gate_callee (f := 58) rfl ?_); refine goesL_ (some 286) rfl rfl Try.func58 (by kernel_rfl) rfl #[.slice Ao18 t409.length co18, .int .i64 t415] rfl (by (try simp only [List.map_toArray, List.map_cons, List.map_nil]); first | done | rfl | (simp only [List.length_drop, List.length_take]; rfl)) ?_; (with_reducible refine (impl_StepAtTime.calls kj103 _ _ t409 t415 t468 false _ ?side1 ?side2 A110.out).mono ?_); (case side1 => repeat (first | exact (Kd.R_reads' HO_5.out).2.2 | (with_reducible refine Kd.C_alloc ?_ _) | (with_reducible refine Kd.C_drewN ?_ _) | (with_reducible refine Kd.C_drew ?_))); (case side2 => exact (Kd.R_reads' HO_5.out).2.1); rintro e w124 ⟨rfl, hb⟩; refine ⟨_, rfl, ?_⟩; have n0_ := M_ (rb_ (by (with_reducible repeat (first | apply ra_ | apply rn_ | apply rd_)); exact HO_5.out) hb); have n1_ := M_ (blk_below (g := gb439) (o := .cells #[.int .i64 t437, .int .i64 t438] 48 (0, 0)) (by (with_reducible repeat (first | refine kn_ ?_ _ | refine kd_ ?_ | refine ka_ ?_ _)); exact BK439.out) hb); have n2_ := M_ (below_step (by repeat (first | (with_reducible first | exact HB.out | apply ba_ | apply bn_ | apply b1_ | refine bs_ ?_ GE439.out) | exact HB.out)) hb); clear HO_5; clear BK439; clear HB; have HO_5 := n0_; have BK439 := n1_; have HB := n2_; clear n0_ n1_ n2_; (try clear hb); (try clear hb2); (try clear hk); (try clear hi)))
                    go_ret
                    exact ⟨by first | rfl | (simp [errW_none, errW_some] <;> rfl) | (simp [*, errW_none, errW_some] <;> rfl), by repeat (first | (with_reducible first | exact HB.out | apply ba_ | apply bn_ | apply b1_ | refine bs_ ?_ GE439.out) | exact HB.out)⟩
                  ·rw [if_neg c115] at H
                   have c115b0 : (t466 == (wrap64 (t415 + t464))) = false := beq_eq_false_iff_ne.mpr c115
                   have c115b1 : (t466 != (wrap64 (t415 + t464))) = true := bne_iff_ne.mpr c115
                   obtain rfl := Option.some.inj H
                   go_wp2_with (first | ((with_reducible refine gate_callee (f := 65) rfl ?_); refine goesL_ (some 267) rfl rfl Try.func65 (by kernel_rfl) rfl #[.slice Ao18 t409.length co18, .int .i64 t410] rfl (by (try simp only [List.map_toArray, List.map_cons, List.map_nil]); first | done | rfl | (simp only [List.length_drop, List.length_take]; rfl)) ?_; (with_reducible refine (impl_TempoAt.calls kj103 _ _ t409 t410 t462 true _ ?side1 ?side2 A107.out).mono ?_); (case side1 => repeat (first | exact (Kd.R_reads' HO_5.out).2.2 | (with_reducible refine Kd.C_alloc ?_ _) | (with_reducible refine Kd.C_drewN ?_ _) | (with_reducible refine Kd.C_drew ?_))); (case side2 => exact (Kd.R_reads' HO_5.out).2.1); rintro e w125 ⟨rfl, hb⟩; refine ⟨_, rfl, ?_⟩; have n0_ := M_ (rb_ (by (with_reducible repeat (first | apply ra_ | apply rn_ | apply rd_)); exact HO_5.out) hb); have n1_ := M_ (blk_below (g := gb439) (o := .cells #[.int .i64 t437, .int .i64 t438] 48 (0, 0)) (by (with_reducible repeat (first | refine kn_ ?_ _ | refine kd_ ?_ | refine ka_ ?_ _)); exact BK439.out) hb); have n2_ := M_ (below_step (by repeat (first | (with_reducible first | exact HB.out | apply ba_ | apply bn_ | apply b1_ | refine bs_ ?_ GE439.out) | exact HB.out)) hb); clear HO_5; clear BK439; clear HB; have HO_5 := n0_; have BK439 := n1_; have HB := n2_; clear n0_ n1_ n2_; (try clear hb); (try clear hb2); (try clear hk); (try clear hi)) | ((with_reducible refine gate_callee (f := 67) rfl ?_); refine goesL_ (some 273) rfl rfl Try.func67 (by kernel_rfl) rfl #[.slice Ao18 t409.length co18, .int .i64 t410] rfl (by (try simp only [List.map_toArray, List.map_cons, List.map_nil]); first | done | rfl | (simp only [List.length_drop, List.length_take]; rfl)) ?_; (with_reducible refine (spec_TempoAt.calls kj103 _ _ t409 t410 t464 true _ ?side1 ?side2 A108.out).mono ?_); (case side1 => repeat (first | exact (Kd.R_reads' HO_5.out).2.2 | (with_reducible refine Kd.C_alloc ?_ _) | (with_reducible refine Kd.C_drewN ?_ _) | (with_reducible refine Kd.C_drew ?_))); (case side2 => exact (Kd.R_reads' HO_5.out).2.1); rintro e w126 ⟨rfl, hb⟩; refine ⟨_, rfl, ?_⟩; have n0_ := M_ (rb_ (by (with_reducible repeat (first | apply ra_ | apply rn_ | apply rd_)); exact HO_5.out) hb); have n1_ := M_ (blk_below (g := gb439) (o := .cells #[.int .i64 t437, .int .i64 t438] 48 (0, 0)) (by (with_reducible repeat (first | refine kn_ ?_ _ | refine kd_ ?_ | refine ka_ ?_ _)); exact BK439.out) hb); have n2_ := M_ (below_step (by repeat (first | (with_reducible first | exact HB.out | apply ba_ | apply bn_ | apply b1_ | refine bs_ ?_ GE439.out) | exact HB.out)) hb); clear HO_5; clear BK439; clear HB; have HO_5 := n0_; have BK439 := n1_; have HB := n2_; clear n0_ n1_ n2_; (try clear hb); (try clear hb2); (try clear hk); (try clear hi)) | ((with_reducible refine gate_callee (f := 55) rfl ?_); refine goesL_ (some 280) rfl rfl Try.func55 (by kernel_rfl) rfl #[.slice Ao18 t409.length co18, .int .i64 (wrap64 (t410 + 1))] rfl (by (try simp only [List.map_toArray, List.map_cons, List.map_nil]); first | done | rfl | (simp only [List.length_drop, List.length_take]; rfl)) ?_; (with_reducible refine (impl_TimeOf.calls kj103 _ _ t409 (wrap64 (t410 + 1)) t466 true _ ?side1 ?side2 A109.out).mono ?_); (case side1 => repeat (first | exact (Kd.R_reads' HO_5.out).2.2 | (with_reducible refine Kd.C_alloc ?_ _) | (with_reducible refine Kd.C_drewN ?_ _) | (with_reducible refine Kd.C_drew ?_))); (case side2 => exact (Kd.R_reads' HO_5.out).2.1); rintro e w127 ⟨rfl, hb⟩; refine ⟨_, rfl, ?_⟩; have n0_ := M_ (rb_ (by (with_reducible repeat (first | apply ra_ | apply rn_ | apply rd_)); exact HO_5.out) hb); have n1_ := M_ (blk_below (g := gb439) (o := .cells #[.int .i64 t437, .int .i64 t438] 48 (0, 0)) (by (with_reducible repeat (first | refine kn_ ?_ _ | refine kd_ ?_ | refine ka_ ?_ _)); exact BK439.out) hb); have n2_ := M_ (below_step (by repeat (first | (with_reducible first | exact HB.out | apply ba_ | apply bn_ | apply b1_ | refine bs_ ?_ GE439.out) | exact HB.out)) hb); clear HO_5; clear BK439; clear HB; have HO_5 := n0_; have BK439 := n1_; have HB := n2_; clear n0_ n1_ n2_; (try clear hb); (try clear hb2); (try clear hk); (try clear hi)) | ((with_reducible refine gate_callee (f := 58) rfl ?_); refine goesL_ (some 286) rfl rfl Try.func58 (by kernel_rfl) rfl #[.slice Ao18 t409.length co18, .int .i64 t415] rfl (by (try simp only [List.map_toArray, List.map_cons, List.map_nil]); first | done | rfl | (simp only [List.length_drop, List.length_take]; rfl)) ?_; (with_reducible refine (impl_StepAtTime.calls kj103 _ _ t409 t415 t468 t469 _ ?side1 ?side2 A110.out).mono ?_); (case side1 => repeat (first | exact (Kd.R_reads' HO_5.out).2.2 | (with_reducible refine Kd.C_alloc ?_ _) | (with_reducible refine Kd.C_drewN ?_ _) | (with_reducible refine Kd.C_drew ?_))); (case side2 => exact (Kd.R_reads' HO_5.out).2.1); rintro e w128 ⟨rfl, hb⟩; refine ⟨_, rfl, ?_⟩; have n0_ := M_ (rb_ (by (with_reducible repeat (first | apply ra_ | apply rn_ | apply rd_)); exact HO_5.out) hb); have n1_ := M_ (blk_below (g := gb439) (o := .cells #[.int .i64 t437, .int .i64 t438] 48 (0, 0)) (by (with_reducible repeat (first | refine kn_ ?_ _ | refine kd_ ?_ | refine ka_ ?_ _)); exact BK439.out) hb); have n2_ := M_ (below_step (by repeat (first | (with_reducible first | exact HB.out | apply ba_ | apply bn_ | apply b1_ | refine bs_ ?_ GE439.out) | exact HB.out)) hb); clear HO_5; clear BK439; clear HB; have HO_5 := n0_; have BK439 := n1_; have HB := n2_; clear n0_ n1_ n2_; (try clear hb); (try clear hb2); (try clear hk); (try clear hi)))
                   go_ret
                   exact ⟨by first | rfl | (simp [errW_none, errW_some] <;> rfl) | (simp [*, errW_none, errW_some] <;> rfl), by repeat (first | (with_reducible first | exact HB.out | apply ba_ | apply bn_ | apply b1_ | refine bs_ ?_ GE439.out) | exact HB.out)⟩
                 ·replace c114 := Bool.eq_false_iff.mpr c114
                  subst c114
                  have H1 : (some false) = some r := by rw [if_neg (show ¬ (false = true) by decide)] at H; exact H
                  clear H
                  have H := H1
                  clear H1
                  obtain rfl := Option.some.inj H
                  go_wp2_with (first | ((with_reducible refine gate_callee (f := 65) rfl ?_); refine goesL_ (some 267) rfl rfl Try.func65 (by kernel_rfl) rfl #[.slice Ao18 t409.length co18, .int .i64 t410] rfl (by (try simp only [List.map_toArray, List.map_cons, List.map_nil]); first | done | rfl | (simp only [List.length_drop, List.length_take]; rfl)) ?_; (with_reducible refine (impl_TempoAt.calls kj103 _ _ t409 t410 t462 true _ ?side1 ?side2 A107.out).mono ?_); (case side1 => repeat (first | exact (Kd.R_reads' HO_5.out).2.2 | (with_reducible refine Kd.C_alloc ?_ _) | (with_reducible refine Kd.C_drewN ?_ _) | (with_reducible refine Kd.C_drew ?_))); (case side2 => exact (Kd.R_reads' HO_5.out).2.1); rintro e w129 ⟨rfl, hb⟩; refine ⟨_, rfl, ?_⟩; have n0_ := M_ (rb_ (by (with_reducible repeat (first | apply ra_ | apply rn_ | apply rd_)); exact HO_5.out) hb); have n1_ := M_ (blk_below (g := gb439) (o := .cells #[.int .i64 t437, .int .i64 t438] 48 (0, 0)) (by (with_reducible repeat (first | refine kn_ ?_ _ | refine kd_ ?_ | refine ka_ ?_ _)); exact BK439.out) hb); have n2_ := M_ (below_step (by repeat (first | (with_reducible first | exact HB.out | apply ba_ | apply bn_ | apply b1_ | refine bs_ ?_ GE439.out) | exact HB.out)) hb); clear HO_5; clear BK439; clear HB; have HO_5 := n0_; have BK439 := n1_; have HB := n2_; clear n0_ n1_ n2_; (try clear hb); (try clear hb2); (try clear hk); (try clear hi)) | ((with_reducible refine gate_callee (f := 67) rfl ?_); refine goesL_ (some 273) rfl rfl Try.func67 (by kernel_rfl) rfl #[.slice Ao18 t409.length co18, .int .i64 t410] rfl (by (try simp only [List.map_toArray, List.map_cons, List.map_nil]); first | done | rfl | (simp only [List.length_drop, List.length_take]; rfl)) ?_; (with_reducible refine (spec_TempoAt.calls kj103 _ _ t409 t410 t464 true _ ?side1 ?side2 A108.out).mono ?_); (case side1 => repeat (first | exact (Kd.R_reads' HO_5.out).2.2 | (with_reducible refine Kd.C_alloc ?_ _) | (with_reducible refine Kd.C_drewN ?_ _) | (with_reducible refine Kd.C_drew ?_))); (case side2 => exact (Kd.R_reads' HO_5.out).2.1); rintro e w130 ⟨rfl, hb⟩; refine ⟨_, rfl, ?_⟩; have n0_ := M_ (rb_ (by (with_reducible repeat (first | apply ra_ | apply rn_ | apply rd_)); exact HO_5.out) hb); have n1_ := M_ (blk_below (g := gb439) (o := .cells #[.int .i64 t437, .int .i64 t438] 48 (0, 0)) (by (with_reducible repeat (first | refine kn_ ?_ _ | refine kd_ ?_ | refine ka_ ?_ _)); exact BK439.out) hb); have n2_ := M_ (below_step (by repeat (first | (with_reducible first | exact HB.out | apply ba_ | apply bn_ | apply b1_ | refine bs_ ?_ GE439.out) | exact HB.out)) hb); clear HO_5; clear BK439; clear HB; have HO_5 := n0_; have BK439 := n1_; have HB := n2_; clear n0_ n1_ n2_; (try clear hb); (try clear hb2); (try clear hk); (try clear hi)) | ((with_reducible refine gate_callee (f := 55) rfl ?_); refine goesL_ (some 280) rfl rfl Try.func55 (by kernel_rfl) rfl #[.slice Ao18 t409.length co18, .int .i64 (wrap64 (t410 + 1))] rfl (by (try simp only [List.map_toArray, List.map_cons, List.map_nil]); first | done | rfl | (simp only [List.length_drop, List.length_take]; rfl)) ?_; (with_reducible refine (impl_TimeOf.calls kj103 _ _ t409 (wrap64 (t410 + 1)) t466 false _ ?side1 ?side2 A109.out).mono ?_); (case side1 => repeat (first | exact (Kd.R_reads' HO_5.out).2.2 | (with_reducible refine Kd.C_alloc ?_ _) | (with_reducible refine Kd.C_drewN ?_ _) | (with_reducible refine Kd.C_drew ?_))); (case side2 => exact (Kd.R_reads' HO_5.out).2.1); rintro e w131 ⟨rfl, hb⟩; refine ⟨_, rfl, ?_⟩; have n0_ := M_ (rb_ (by (with_reducible repeat (first | apply ra_ | apply rn_ | apply rd_)); exact HO_5.out) hb); have n1_ := M_ (blk_below (g := gb439) (o := .cells #[.int .i64 t437, .int .i64 t438] 48 (0, 0)) (by (with_reducible repeat (first | refine kn_ ?_ _ | refine kd_ ?_ | refine ka_ ?_ _)); exact BK439.out) hb); have n2_ := M_ (below_step (by repeat (first | (with_reducible first | exact HB.out | apply ba_ | apply bn_ | apply b1_ | refine bs_ ?_ GE439.out) | exact HB.out)) hb); clear HO_5; clear BK439; clear HB; have HO_5 := n0_; have BK439 := n1_; have HB := n2_; clear n0_ n1_ n2_; (try clear hb); (try clear hb2); (try clear hk); (try clear hi)) | ((with_reducible refine gate_callee (f := 58) rfl ?_); refine goesL_ (some 286) rfl rfl Try.func58 (by kernel_rfl) rfl #[.slice Ao18 t409.length co18, .int .i64 t415] rfl (by (try simp only [List.map_toArray, List.map_cons, List.map_nil]); first | done | rfl | (simp only [List.length_drop, List.length_take]; rfl)) ?_; (with_reducible refine (impl_StepAtTime.calls kj103 _ _ t409 t415 t468 t469 _ ?side1 ?side2 A110.out).mono ?_); (case side1 => repeat (first | exact (Kd.R_reads' HO_5.out).2.2 | (with_reducible refine Kd.C_alloc ?_ _) | (with_reducible refine Kd.C_drewN ?_ _) | (with_reducible refine Kd.C_drew ?_))); (case side2 => exact (Kd.R_reads' HO_5.out).2.1); rintro e w132 ⟨rfl, hb⟩; refine ⟨_, rfl, ?_⟩; have n0_ := M_ (rb_ (by (with_reducible repeat (first | apply ra_ | apply rn_ | apply rd_)); exact HO_5.out) hb); have n1_ := M_ (blk_below (g := gb439) (o := .cells #[.int .i64 t437, .int .i64 t438] 48 (0, 0)) (by (with_reducible repeat (first | refine kn_ ?_ _ | refine kd_ ?_ | refine ka_ ?_ _)); exact BK439.out) hb); have n2_ := M_ (below_step (by repeat (first | (with_reducible first | exact HB.out | apply ba_ | apply bn_ | apply b1_ | refine bs_ ?_ GE439.out) | exact HB.out)) hb); clear HO_5; clear BK439; clear HB; have HO_5 := n0_; have BK439 := n1_; have HB := n2_; clear n0_ n1_ n2_; (try clear hb); (try clear hb2); (try clear hk); (try clear hi)))
                  go_ret
                  exact ⟨by first | rfl | (simp [errW_none, errW_some] <;> rfl) | (simp [*, errW_none, errW_some] <;> rfl), by repeat (first | (with_reducible first | exact HB.out | apply ba_ | apply bn_ | apply b1_ | refine bs_ ?_ GE439.out) | exact HB.out)⟩
                ·rw [if_neg c113] at H
                 have c113b0 : (t462 == t464) = false := beq_eq_false_iff_ne.mpr c113
                 have c113b1 : (t462 != t464) = true := bne_iff_ne.mpr c113
                 obtain rfl := Option.some.inj H
                 go_wp2_with (first | ((with_reducible refine gate_callee (f := 65) rfl ?_); refine goesL_ (some 267) rfl rfl Try.func65 (by kernel_rfl) rfl #[.slice Ao18 t409.length co18, .int .i64 t410] rfl (by (try simp only [List.map_toArray, List.map_cons, List.map_nil]); first | done | rfl | (simp only [List.length_drop, List.length_take]; rfl)) ?_; (with_reducible refine (impl_TempoAt.calls kj103 _ _ t409 t410 t462 true _ ?side1 ?side2 A107.out).mono ?_); (case side1 => repeat (first | exact (Kd.R_reads' HO_5.out).2.2 | (with_reducible refine Kd.C_alloc ?_ _) | (with_reducible refine Kd.C_drewN ?_ _) | (with_reducible refine Kd.C_drew ?_))); (case side2 => exact (Kd.R_reads' HO_5.out).2.1); rintro e w133 ⟨rfl, hb⟩; refine ⟨_, rfl, ?_⟩; have n0_ := M_ (rb_ (by (with_reducible repeat (first | apply ra_ | apply rn_ | apply rd_)); exact HO_5.out) hb); have n1_ := M_ (blk_below (g := gb439) (o := .cells #[.int .i64 t437, .int .i64 t438] 48 (0, 0)) (by (with_reducible repeat (first | refine kn_ ?_ _ | refine kd_ ?_ | refine ka_ ?_ _)); exact BK439.out) hb); have n2_ := M_ (below_step (by repeat (first | (with_reducible first | exact HB.out | apply ba_ | apply bn_ | apply b1_ | refine bs_ ?_ GE439.out) | exact HB.out)) hb); clear HO_5; clear BK439; clear HB; have HO_5 := n0_; have BK439 := n1_; have HB := n2_; clear n0_ n1_ n2_; (try clear hb); (try clear hb2); (try clear hk); (try clear hi)) | ((with_reducible refine gate_callee (f := 67) rfl ?_); refine goesL_ (some 273) rfl rfl Try.func67 (by kernel_rfl) rfl #[.slice Ao18 t409.length co18, .int .i64 t410] rfl (by (try simp only [List.map_toArray, List.map_cons, List.map_nil]); first | done | rfl | (simp only [List.length_drop, List.length_take]; rfl)) ?_; (with_reducible refine (spec_TempoAt.calls kj103 _ _ t409 t410 t464 true _ ?side1 ?side2 A108.out).mono ?_); (case side1 => repeat (first | exact (Kd.R_reads' HO_5.out).2.2 | (with_reducible refine Kd.C_alloc ?_ _) | (with_reducible refine Kd.C_drewN ?_ _) | (with_reducible refine Kd.C_drew ?_))); (case side2 => exact (Kd.R_reads' HO_5.out).2.1); rintro e w134 ⟨rfl, hb⟩; refine ⟨_, rfl, ?_⟩; have n0_ := M_ (rb_ (by (with_reducible repeat (first | apply ra_ | apply rn_ | apply rd_)); exact HO_5.out) hb); have n1_ := M_ (blk_below (g := gb439) (o := .cells #[.int .i64 t437, .int .i64 t438] 48 (0, 0)) (by (with_reducible repeat (first | refine kn_ ?_ _ | refine kd_ ?_ | refine ka_ ?_ _)); exact BK439.out) hb); have n2_ := M_ (below_step (by repeat (first | (with_reducible first | exact HB.out | apply ba_ | apply bn_ | apply b1_ | refine bs_ ?_ GE439.out) | exact HB.out)) hb); clear HO_5; clear BK439; clear HB; have HO_5 := n0_; have BK439 := n1_; have HB := n2_; clear n0_ n1_ n2_; (try clear hb); (try clear hb2); (try clear hk); (try clear hi)) | ((with_reducible refine gate_callee (f := 55) rfl ?_); refine goesL_ (some 280) rfl rfl Try.func55 (by kernel_rfl) rfl #[.slice Ao18 t409.length co18, .int .i64 (wrap64 (t410 + 1))] rfl (by (try simp only [List.map_toArray, List.map_cons, List.map_nil]); first | done | rfl | (simp only [List.length_drop, List.length_take]; rfl)) ?_; (with_reducible refine (impl_TimeOf.calls kj103 _ _ t409 (wrap64 (t410 + 1)) t466 t467 _ ?side1 ?side2 A109.out).mono ?_); (case side1 => repeat (first | exact (Kd.R_reads' HO_5.out).2.2 | (with_reducible refine Kd.C_alloc ?_ _) | (with_reducible refine Kd.C_drewN ?_ _) | (with_reducible refine Kd.C_drew ?_))); (case side2 => exact (Kd.R_reads' HO_5.out).2.1); rintro e w135 ⟨rfl, hb⟩; refine ⟨_, rfl, ?_⟩; have n0_ := M_ (rb_ (by (with_reducible repeat (first | apply ra_ | apply rn_ | apply rd_)); exact HO_5.out) hb); have n1_ := M_ (blk_below (g := gb439) (o := .cells #[.int .i64 t437, .int .i64 t438] 48 (0, 0)) (by (with_reducible repeat (first | refine kn_ ?_ _ | refine kd_ ?_ | refine ka_ ?_ _)); exact BK439.out) hb); have n2_ := M_ (below_step (by repeat (first | (with_reducible first | exact HB.out | apply ba_ | apply bn_ | apply b1_ | refine bs_ ?_ GE439.out) | exact HB.out)) hb); clear HO_5; clear BK439; clear HB; have HO_5 := n0_; have BK439 := n1_; have HB := n2_; clear n0_ n1_ n2_; (try clear hb); (try clear hb2); (try clear hk); (try clear hi)) | ((with_reducible refine gate_callee (f := 58) rfl ?_); refine goesL_ (some 286) rfl rfl Try.func58 (by kernel_rfl) rfl #[.slice Ao18 t409.length co18, .int .i64 t415] rfl (by (try simp only [List.map_toArray, List.map_cons, List.map_nil]); first | done | rfl | (simp only [List.length_drop, List.length_take]; rfl)) ?_; (with_reducible refine (impl_StepAtTime.calls kj103 _ _ t409 t415 t468 t469 _ ?side1 ?side2 A110.out).mono ?_); (case side1 => repeat (first | exact (Kd.R_reads' HO_5.out).2.2 | (with_reducible refine Kd.C_alloc ?_ _) | (with_reducible refine Kd.C_drewN ?_ _) | (with_reducible refine Kd.C_drew ?_))); (case side2 => exact (Kd.R_reads' HO_5.out).2.1); rintro e w136 ⟨rfl, hb⟩; refine ⟨_, rfl, ?_⟩; have n0_ := M_ (rb_ (by (with_reducible repeat (first | apply ra_ | apply rn_ | apply rd_)); exact HO_5.out) hb); have n1_ := M_ (blk_below (g := gb439) (o := .cells #[.int .i64 t437, .int .i64 t438] 48 (0, 0)) (by (with_reducible repeat (first | refine kn_ ?_ _ | refine kd_ ?_ | refine ka_ ?_ _)); exact BK439.out) hb); have n2_ := M_ (below_step (by repeat (first | (with_reducible first | exact HB.out | apply ba_ | apply bn_ | apply b1_ | refine bs_ ?_ GE439.out) | exact HB.out)) hb); clear HO_5; clear BK439; clear HB; have HO_5 := n0_; have BK439 := n1_; have HB := n2_; clear n0_ n1_ n2_; (try clear hb); (try clear hb2); (try clear hk); (try clear hi)))
                 go_ret
                 exact ⟨by first | rfl | (simp [errW_none, errW_some] <;> rfl) | (simp [*, errW_none, errW_some] <;> rfl), by repeat (first | (with_reducible first | exact HB.out | apply ba_ | apply bn_ | apply b1_ | refine bs_ ?_ GE439.out) | exact HB.out)⟩
               ·replace c112 := Bool.eq_false_iff.mpr c112
                subst c112
                have H1 : (some false) = some r := by rw [if_neg (show ¬ (false = true) by decide)] at H; exact H
                clear H
                have H := H1
                clear H1
                obtain rfl := Option.some.inj H
                go_wp2_with (first | ((with_reducible refine gate_callee (f := 65) rfl ?_); refine goesL_ (some 267) rfl rfl Try.func65 (by kernel_rfl) rfl #[.slice Ao18 t409.length co18, .int .i64 t410] rfl (by (try simp only [List.map_toArray, List.map_cons, List.map_nil]); first | done | rfl | (simp only [List.length_drop, List.length_take]; rfl)) ?_; (with_reducible refine (impl_TempoAt.calls kj103 _ _ t409 t410 t462 true _ ?side1 ?side2 A107.out).mono ?_); (case side1 => repeat (first | exact (Kd.R_reads' HO_5.out).2.2 | (with_reducible refine Kd.C_alloc ?_ _) | (with_reducible refine Kd.C_drewN ?_ _) | (with_reducible refine Kd.C_drew ?_))); (case side2 => exact (Kd.R_reads' HO_5.out).2.1); rintro e w137 ⟨rfl, hb⟩; refine ⟨_, rfl, ?_⟩; have n0_ := M_ (rb_ (by (with_reducible repeat (first | apply ra_ | apply rn_ | apply rd_)); exact HO_5.out) hb); have n1_ := M_ (blk_below (g := gb439) (o := .cells #[.int .i64 t437, .int .i64 t438] 48 (0, 0)) (by (with_reducible repeat (first | refine kn_ ?_ _ | refine kd_ ?_ | refine ka_ ?_ _)); exact BK439.out) hb); have n2_ := M_ (below_step (by repeat (first | (with_reducible first | exact HB.out | apply ba_ | apply bn_ | apply b1_ | refine bs_ ?_ GE439.out) | exact HB.out)) hb); clear HO_5; clear BK439; clear HB; have HO_5 := n0_; have BK439 := n1_; have HB := n2_; clear n0_ n1_ n2_; (try clear hb); (try clear hb2); (try clear hk); (try clear hi)) | ((with_reducible refine gate_callee (f := 67) rfl ?_); refine goesL_ (some 273) rfl rfl Try.func67 (by kernel_rfl) rfl #[.slice Ao18 t409.length co18, .int .i64 t410] rfl (by (try simp only [List.map_toArray, List.map_cons, List.map_nil]); first | done | rfl | (simp only [List.length_drop, List.length_take]; rfl)) ?_; (with_reducible refine (spec_TempoAt.calls kj103 _ _ t409 t410 t464 false _ ?side1 ?side2 A108.out).mono ?_); (case side1 => repeat (first | exact (Kd.R_reads' HO_5.out).2.2 | (with_reducible refine Kd.C_alloc ?_ _) | (with_reducible refine Kd.C_drewN ?_ _) | (with_reducible refine Kd.C_drew ?_))); (case side2 => exact (Kd.R_reads' HO_5.out).2.1); rintro e w138 ⟨rfl, hb⟩; refine ⟨_, rfl, ?_⟩; have n0_ := M_ (rb_ (by (with_reducible repeat (first | apply ra_ | apply rn_ | apply rd_)); exact HO_5.out) hb); have n1_ := M_ (blk_below (g := gb439) (o := .cells #[.int .i64 t437, .int .i64 t438] 48 (0, 0)) (by (with_reducible repeat (first | refine kn_ ?_ _ | refine kd_ ?_ | refine ka_ ?_ _)); exact BK439.out) hb); have n2_ := M_ (below_step (by repeat (first | (with_reducible first | exact HB.out | apply ba_ | apply bn_ | apply b1_ | refine bs_ ?_ GE439.out) | exact HB.out)) hb); clear HO_5; clear BK439; clear HB; have HO_5 := n0_; have BK439 := n1_; have HB := n2_; clear n0_ n1_ n2_; (try clear hb); (try clear hb2); (try clear hk); (try clear hi)) | ((with_reducible refine gate_callee (f := 55) rfl ?_); refine goesL_ (some 280) rfl rfl Try.func55 (by kernel_rfl) rfl #[.slice Ao18 t409.length co18, .int .i64 (wrap64 (t410 + 1))] rfl (by (try simp only [List.map_toArray, List.map_cons, List.map_nil]); first | done | rfl | (simp only [List.length_drop, List.length_take]; rfl)) ?_; (with_reducible refine (impl_TimeOf.calls kj103 _ _ t409 (wrap64 (t410 + 1)) t466 t467 _ ?side1 ?side2 A109.out).mono ?_); (case side1 => repeat (first | exact (Kd.R_reads' HO_5.out).2.2 | (with_reducible refine Kd.C_alloc ?_ _) | (with_reducible refine Kd.C_drewN ?_ _) | (with_reducible refine Kd.C_drew ?_))); (case side2 => exact (Kd.R_reads' HO_5.out).2.1); rintro e w139 ⟨rfl, hb⟩; refine ⟨_, rfl, ?_⟩; have n0_ := M_ (rb_ (by (with_reducible repeat (first | apply ra_ | apply rn_ | apply rd_)); exact HO_5.out) hb); have n1_ := M_ (blk_below (g := gb439) (o := .cells #[.int .i64 t437, .int .i64 t438] 48 (0, 0)) (by (with_reducible repeat (first | refine kn_ ?_ _ | refine kd_ ?_ | refine ka_ ?_ _)); exact BK439.out) hb); have n2_ := M_ (below_step (by repeat (first | (with_reducible first | exact HB.out | apply ba_ | apply bn_ | apply b1_ | refine bs_ ?_ GE439.out) | exact HB.out)) hb); clear HO_5; clear BK439; clear HB; have HO_5 := n0_; have BK439 := n1_; have HB := n2_; clear n0_ n1_ n2_; (try clear hb); (try clear hb2); (try clear hk); (try clear hi)) | ((with_reducible refine gate_callee (f := 58) rfl ?_); refine goesL_ (some 286) rfl rfl Try.func58 (by kernel_rfl) rfl #[.slice Ao18 t409.length co18, .int .i64 t415] rfl (by (try simp only [List.map_toArray, List.map_cons, List.map_nil]); first | done | rfl | (simp only [List.length_drop, List.length_take]; rfl)) ?_; (with_reducible refine (impl_StepAtTime.calls kj103 _ _ t409 t415 t468 t469 _ ?side1 ?side2 A110.out).mono ?_); (case side1 => repeat (first | exact (Kd.R_reads' HO_5.out).2.2 | (with_reducible refine Kd.C_alloc ?_ _) | (with_reducible refine Kd.C_drewN ?_ _) | (with_reducible refine Kd.C_drew ?_))); (case side2 => exact (Kd.R_reads' HO_5.out).2.1); rintro e w140 ⟨rfl, hb⟩; refine ⟨_, rfl, ?_⟩; have n0_ := M_ (rb_ (by (with_reducible repeat (first | apply ra_ | apply rn_ | apply rd_)); exact HO_5.out) hb); have n1_ := M_ (blk_below (g := gb439) (o := .cells #[.int .i64 t437, .int .i64 t438] 48 (0, 0)) (by (with_reducible repeat (first | refine kn_ ?_ _ | refine kd_ ?_ | refine ka_ ?_ _)); exact BK439.out) hb); have n2_ := M_ (below_step (by repeat (first | (with_reducible first | exact HB.out | apply ba_ | apply bn_ | apply b1_ | refine bs_ ?_ GE439.out) | exact HB.out)) hb); clear HO_5; clear BK439; clear HB; have HO_5 := n0_; have BK439 := n1_; have HB := n2_; clear n0_ n1_ n2_; (try clear hb); (try clear hb2); (try clear hk); (try clear hi)))
                go_ret
                exact ⟨by first | rfl | (simp [errW_none, errW_some] <;> rfl) | (simp [*, errW_none, errW_some] <;> rfl), by repeat (first | (with_reducible first | exact HB.out | apply ba_ | apply bn_ | apply b1_ | refine bs_ ?_ GE439.out) | exact HB.out)⟩
              ·replace c111 := Bool.eq_false_iff.mpr c111
               subst c111
               have H1 : (some false) = some r := by rw [if_neg (show ¬ (false = true) by decide)] at H; exact H
               clear H
               have H := H1
               clear H1
               obtain rfl := Option.some.inj H
               go_wp2_with (first | ((with_reducible refine gate_callee (f := 65) rfl ?_); refine goesL_ (some 267) rfl rfl Try.func65 (by kernel_rfl) rfl #[.slice Ao18 t409.length co18, .int .i64 t410] rfl (by (try simp only [List.map_toArray, List.map_cons, List.map_nil]); first | done | rfl | (simp only [List.length_drop, List.length_take]; rfl)) ?_; (with_reducible refine (impl_TempoAt.calls kj103 _ _ t409 t410 t462 false _ ?side1 ?side2 A107.out).mono ?_); (case side1 => repeat (first | exact (Kd.R_reads' HO_5.out).2.2 | (with_reducible refine Kd.C_alloc ?_ _) | (with_reducible refine Kd.C_drewN ?_ _) | (with_reducible refine Kd.C_drew ?_))); (case side2 => exact (Kd.R_reads' HO_5.out).2.1); rintro e w141 ⟨rfl, hb⟩; refine ⟨_, rfl, ?_⟩; have n0_ := M_ (rb_ (by (with_reducible repeat (first | apply ra_ | apply rn_ | apply rd_)); exact HO_5.out) hb); have n1_ := M_ (blk_below (g := gb439) (o := .cells #[.int .i64 t437, .int .i64 t438] 48 (0, 0)) (by (with_reducible repeat (first | refine kn_ ?_ _ | refine kd_ ?_ | refine ka_ ?_ _)); exact BK439.out) hb); have n2_ := M_ (below_step (by repeat (first | (with_reducible first | exact HB.out | apply ba_ | apply bn_ | apply b1_ | refine bs_ ?_ GE439.out) | exact HB.out)) hb); clear HO_5; clear BK439; clear HB; have HO_5 := n0_; have BK439 := n1_; have HB := n2_; clear n0_ n1_ n2_; (try clear hb); (try clear hb2); (try clear hk); (try clear hi)) | ((with_reducible refine gate_callee (f := 67) rfl ?_); refine goesL_ (some 273) rfl rfl Try.func67 (by kernel_rfl) rfl #[.slice Ao18 t409.length co18, .int .i64 t410] rfl (by (try simp only [List.map_toArray, List.map_cons, List.map_nil]); first | done | rfl | (simp only [List.length_drop, List.length_take]; rfl)) ?_; (with_reducible refine (spec_TempoAt.calls kj103 _ _ t409 t410 t464 t465 _ ?side1 ?side2 A108.out).mono ?_); (case side1 => repeat (first | exact (Kd.R_reads' HO_5.out).2.2 | (with_reducible refine Kd.C_alloc ?_ _) | (with_reducible refine Kd.C_drewN ?_ _) | (with_reducible refine Kd.C_drew ?_))); (case side2 => exact (Kd.R_reads' HO_5.out).2.1); rintro e w142 ⟨rfl, hb⟩; refine ⟨_, rfl, ?_⟩; have n0_ := M_ (rb_ (by (with_reducible repeat (first | apply ra_ | apply rn_ | apply rd_)); exact HO_5.out) hb); have n1_ := M_ (blk_below (g := gb439) (o := .cells #[.int .i64 t437, .int .i64 t438] 48 (0, 0)) (by (with_reducible repeat (first | refine kn_ ?_ _ | refine kd_ ?_ | refine ka_ ?_ _)); exact BK439.out) hb); have n2_ := M_ (below_step (by repeat (first | (with_reducible first | exact HB.out | apply ba_ | apply bn_ | apply b1_ | refine bs_ ?_ GE439.out) | exact HB.out)) hb); clear HO_5; clear BK439; clear HB; have HO_5 := n0_; have BK439 := n1_; have HB := n2_; clear n0_ n1_ n2_; (try clear hb); (try clear hb2); (try clear hk); (try clear hi)) | ((with_reducible refine gate_callee (f := 55) rfl ?_); refine goesL_ (some 280) rfl rfl Try.func55 (by kernel_rfl) rfl #[.slice Ao18 t409.length co18, .int .i64 (wrap64 (t410 + 1))] rfl (by (try simp only [List.map_toArray, List.map_cons, List.map_nil]); first | done | rfl | (simp only [List.length_drop, List.length_take]; rfl)) ?_; (with_reducible refine (impl_TimeOf.calls kj103 _ _ t409 (wrap64 (t410 + 1)) t466 t467 _ ?side1 ?side2 A109.out).mono ?_); (case side1 => repeat (first | exact (Kd.R_reads' HO_5.out).2.2 | (with_reducible refine Kd.C_alloc ?_ _) | (with_reducible refine Kd.C_drewN ?_ _) | (with_reducible refine Kd.C_drew ?_))); (case side2 => exact (Kd.R_reads' HO_5.out).2.1); rintro e w143 ⟨rfl, hb⟩; refine ⟨_, rfl, ?_⟩; have n0_ := M_ (rb_ (by (with_reducible repeat (first | apply ra_ | apply rn_ | apply rd_)); exact HO_5.out) hb); have n1_ := M_ (blk_below (g := gb439) (o := .cells #[.int .i64 t437, .int .i64 t438] 48 (0, 0)) (by (with_reducible repeat (first | refine kn_ ?_ _ | refine kd_ ?_ | refine ka_ ?_ _)); exact BK439.out) hb); have n2_ := M_ (below_step (by repeat (first | (with_reducible first | exact HB.out | apply ba_ | apply bn_ | apply b1_ | refine bs_ ?_ GE439.out) | exact HB.out)) hb); clear HO_5; clear BK439; clear HB; have HO_5 := n0_; have BK439 := n1_; have HB := n2_; clear n0_ n1_ n2_; (try clear hb); (try clear hb2); (try clear hk); (try clear hi)) | ((with_reducible refine gate_callee (f := 58) rfl ?_); refine goesL_ (some 286) rfl rfl Try.func58 (by kernel_rfl) rfl #[.slice Ao18 t409.length co18, .int .i64 t415] rfl (by (try simp only [List.map_toArray, List.map_cons, List.map_nil]); first | done | rfl | (simp only [List.length_drop, List.length_take]; rfl)) ?_; (with_reducible refine (impl_StepAtTime.calls kj103 _ _ t409 t415 t468 t469 _ ?side1 ?side2 A110.out).mono ?_); (case side1 => repeat (first | exact (Kd.R_reads' HO_5.out).2.2 | (with_reducible refine Kd.C_alloc ?_ _) | (with_reducible refine Kd.C_drewN ?_ _) | (with_reducible refine Kd.C_drew ?_))); (case side2 => exact (Kd.R_reads' HO_5.out).2.1); rintro e w144 ⟨rfl, hb⟩; refine ⟨_, rfl, ?_⟩; have n0_ := M_ (rb_ (by (with_reducible repeat (first | apply ra_ | apply rn_ | apply rd_)); exact HO_5.out) hb); have n1_ := M_ (blk_below (g := gb439) (o := .cells #[.int .i64 t437, .int .i64 t438] 48 (0, 0)) (by (with_reducible repeat (first | refine kn_ ?_ _ | refine kd_ ?_ | refine ka_ ?_ _)); exact BK439.out) hb); have n2_ := M_ (below_step (by repeat (first | (with_reducible first | exact HB.out | apply ba_ | apply bn_ | apply b1_ | refine bs_ ?_ GE439.out) | exact HB.out)) hb); clear HO_5; clear BK439; clear HB; have HO_5 := n0_; have BK439 := n1_; have HB := n2_; clear n0_ n1_ n2_; (try clear hb); (try clear hb2); (try clear hk); (try clear hi)))
               go_ret
               exact ⟨by first | rfl | (simp [errW_none, errW_some] <;> rfl) | (simp [*, errW_none, errW_some] <;> rfl), by repeat (first | (with_reducible first | exact HB.out | apply ba_ | apply bn_ | apply b1_ | refine bs_ ?_ GE439.out) | exact HB.out)⟩

/-- THE ONE PURE STATEMENT of laws_FnTempos: yours. -/
def laws_FnTempos.Pure : Prop := ∀ (l0 : List Int) (l1 : List Int), l0.length ≤ maxLen → l0.length * 1 ≤ 140737488351232 → (∀ x ∈ l0, (Lit.int .u8 x).wf = true) → l1.length ≤ maxLen → l1.length * 1 ≤ 140737488351232 → (∀ x ∈ l1, (Lit.int .u8 x).wf = true) → ∃ k, laws_FnTempos.f k l0 l1 = some true
theorem laws_FnTempos.walk (P : laws_FnTempos.Pure) (a0 : Option Addr) (len0 cap0 : Nat) (z0 : List Int) (a1 : Option Addr) (len1 cap1 : Nat) (z1 : List Int) (w : World) (w0 : (a0 = none ∧ len0 = 0 ∧ cap0 = 0 ∧ z0 = []) ∨ ∃ x, a0 = some x ∧ len0 ≤ cap0 ∧ cap0 ≤ maxLen ∧ z0.length = cap0 ∧ (∀ i, i < z0.length → w.cell? (x.add i) = some (.int .u8 (z0.getD i 0))) ∧ ∀ n ∈ z0, (Lit.int .u8 n).wf = true) (y0 : len0 * 1 ≤ 140737488351232) (w1 : (a1 = none ∧ len1 = 0 ∧ cap1 = 0 ∧ z1 = []) ∨ ∃ x, a1 = some x ∧ len1 ≤ cap1 ∧ cap1 ≤ maxLen ∧ z1.length = cap1 ∧ (∀ i, i < z1.length → w.cell? (x.add i) = some (.int .u8 (z1.getD i 0))) ∧ ∀ n ∈ z1, (Lit.int .u8 n).wf = true) (y1 : len1 * 1 ≤ 140737488351232) :
  Calls Try.prog 12 #[.slice a0 len0 cap0, .slice a1 len1 cap1] w fun e w' => e = .returned (.bool true) ∧ Below w.heap.size w w' := by
 obtain ⟨l0, rfl, hr0, hm0, hw0, hc0⟩ := ReadsInt.ofRowC w0
 obtain ⟨l1, rfl, hr1, hm1, hw1, hc1⟩ := ReadsInt.ofRowC w1
 obtain ⟨k, h⟩ := P l0 l1 hm0 y0 hw0 hm1 y1 hw1
 refine (laws_FnTempos.calls k _ _ l0 _ _ l1 true w (Kd.C_of_reads (d := (0 : Int)) (h1 := fun _ => rfl) hr0) hc0 (Kd.C_of_reads (d := (0 : Int)) (h1 := fun _ => rfl) hr1) hc1 h).mono ?_
 rintro e w' ⟨rfl, hd⟩
 exact ⟨rfl, hd⟩

end Go.Proofs.Ytjgpngeifgcidaa.PFnTempos
