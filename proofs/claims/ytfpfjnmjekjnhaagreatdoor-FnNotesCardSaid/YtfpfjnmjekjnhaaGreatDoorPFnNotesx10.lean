-- by wip/xprint.py, over the kit's printer
import Derived.Test.YtfpfjnmjekjnhaaGreatDoorPFnNotesx0
import Derived.Test.YtfpfjnmjekjnhaaGreatDoorPFnNotesx2
import Derived.Test.YtfpfjnmjekjnhaaGreatDoorPFnNotesx3
import Derived.Test.YtfpfjnmjekjnhaaGreatDoorPFnNotesx4
import Derived.Test.YtfpfjnmjekjnhaaGreatDoorPFnNotesx7
import Derived.Test.YtfpfjnmjekjnhaaGreatDoorPFnNotesx8
namespace Go.Proofs.YtfpfjnmjekjnhaaGreatDoor.PFnNotes
open Go.RowKit Go.Proofs.YtfpfjnmjekjnhaaGreatDoorW.PrintWords Go.Proofs.YtfpfjnmjekjnhaaGreatDoorW.PrintLast Go.Proofs.YtfpfjnmjekjnhaaGreatDoorW.PrintMore
attribute [local go_sem] max2_int min2_int max_two min_two max_three min_three max_four min_four   -- for this text's walks alone
set_option linter.unusedVariables false
set_option linter.unusedSimpArgs false

def spec_JoinScores.f (k : Nat) (l0 : List (S31)) (l1 : List (S31)) : Option ((List (S31)) × Bool) := (spec_ntGood.f k l0).bind fun t352 => (if t352 = true then ((spec_ntGood.f k l1).bind fun t353 => (if t353 = true then ((some (([] : List (S31)) : List (S31))).bind fun y354 => (if y354.length + l0.length < 5864062014805 then ((some (y354 ++ l0 : List (S31))).bind fun y357 => (if y357.length + l1.length < 5864062014805 then ((spec_ntSorted.f k (y357 ++ l1)).bind fun bt363 => (some (bt363.1, bt363.2))) else (none))) else (none))) else (some (([] : List (S31)), false)))) else (some (([] : List (S31)), false)))
theorem spec_JoinScores.mono : ∀ a0 a1 k, LeO (spec_JoinScores.f k a0 a1) (spec_JoinScores.f (k + 1) a0 a1) := by
 intro a0 a1 k
 unfold spec_JoinScores.f
 have m0_ := @spec_ntGood.mono;have m1_ := @spec_ntSorted.mono;exact mo_
set_option maxHeartbeats 8000000 in
set_option maxRecDepth 100000 in
theorem spec_JoinScores.calls (k : Nat) (A0 : Option Addr) (c0 : Nat) (l0 : List (S31)) (A1 : Option Addr) (c1 : Nat) (l1 : List (S31)) (r1 : List (S31)) (r2 : Bool) (w : World) (hr0 : Kd.C k31 w A0 l0.length l0) (hc0 : l0.length ≤ c0) (hr1 : Kd.C k31 w A1 l1.length l1) (hc1 : l1.length ≤ c1) (h : spec_JoinScores.f k l0 l1 = some (r1, r2)) :
  Calls Tryz.prog 14 #[.slice A0 l0.length c0, .slice A1 l1.length c1] w fun e w' => ∃ v0_ : Value, e = .returned (.tuple #[v0_, .bool r2]) ∧ Kd.R k31 31 w' w.heap.size (fun _ => True) v0_ r1 ∧ Below w.heap.size w w' := by
 have HR0 := M_ hr0;have HC0 := M_ hc0;clear hr0 hc0;have HR1 := M_ hr1;have HC1 := M_ hc1;clear hr1 hc1;have HB := M_ (Below.refl w.heap.size w)
 have H : ((spec_ntGood.f k l0).bind fun t352 => (if t352 = true then ((spec_ntGood.f k l1).bind fun t353 => (if t353 = true then ((some (([] : List (S31)) : List (S31))).bind fun y354 => (if y354.length + l0.length < 5864062014805 then ((some (y354 ++ l0 : List (S31))).bind fun y357 => (if y357.length + l1.length < 5864062014805 then ((spec_ntSorted.f k (y357 ++ l1)).bind fun bt363 => (some (bt363.1, bt363.2))) else (none))) else (none))) else (some (([] : List (S31)), false)))) else (some (([] : List (S31)), false)))) = some (r1, r2) := h
 clear h;replace H := Option.bind_eq_some_iff.mp H;obtain ⟨t352, A30, H⟩ := H;(try dsimp only at H);have A3 := M_ A30;clear A30
 by_cases c4 : t352 = true
 ·subst c4
  rw [if_pos rfl] at H
  replace H := Option.bind_eq_some_iff.mp H;obtain ⟨t353, A50, H⟩ := H;(try dsimp only at H);have A5 := M_ A50;clear A50
  by_cases c6 : t353 = true
  ·subst c6
   rw [if_pos rfl] at H
   obtain ⟨y354, hy354, H⟩ := ob_ H;(try dsimp only at H);have Ny354 := M_ hy354;clear hy354
   by_cases c7 : y354.length + l0.length < 5864062014805
   ·rw [if_pos c7] at H
    have LMc7 := M_ c7;clear c7;obtain ⟨y357, hy357, H⟩ := ob_ H;(try dsimp only at H);have Ny357 := M_ hy357;clear hy357
    by_cases c8 : y357.length + l1.length < 5864062014805
    ·rw [if_pos c8] at H
     have LMc8 := M_ c8;clear c8;obtain ⟨y360, hy360⟩ : ∃ y_ : List (S31), y_ = (y357 ++ l1) := ⟨_, rfl⟩
     replace H : ((spec_ntSorted.f k y360).bind fun bt363 => (some (bt363.1, bt363.2))) = some (r1, r2) := by first | (rw [hy360]; with_reducible exact H) | (have H2_ := (Option.bind_some _ _).symm.trans H; rw [hy360]; with_reducible exact H2_) | (have H2_ := (Option.bind_some _ _).symm.trans H; with_reducible exact H2_) | with_reducible exact H | (rw [hy360]; exact H) | exact H
     have Ny360 := M_ hy360;clear hy360;replace H := Option.bind_eq_some_iff.mp H;obtain ⟨⟨t363, t364⟩, A90, H⟩ := H;replace H : (some (t363, t364)) = some (r1, r2) := H;have A9 := M_ A90;clear A90;simp only [Option.some.injEq, Prod.mk.injEq] at H;obtain ⟨rfl, rfl⟩ := H
     go_enter Tryz.func14, Tryz.ntmps14
     go_wp2_with (first | ((with_reducible refine gc_ 49 ?_); refine gM_ (some 7) Tryz.func49 #[.slice A0 l0.length c0] ?_; (with_reducible refine (spec_ntGood.calls k _ _ l0 true _ ?side1 ?side2 A3.out).mono ?_); (case side1 => exact cU_ HR0.out); (case side2 => exact HC0.out); rintro e w10 ⟨rfl, hb⟩; refine ⟨_, rfl, ?_⟩; replace HB := M_ (bS_ HB hb); clear hb) | (go_at_call 49; (with_reducible refine (spec_ntGood.calls k _ _ l1 true _ ?side1 ?side2 A5.out).mono ?_); (case side1 => exact cU_ (Kd.C_below HR1.out HB.out)); (case side2 => exact HC1.out); rintro e w11 ⟨rfl, hb⟩; replace HB := M_ (bS_ HB hb); clear hb) | ((with_reducible refine gate_dst (N := 14) rfl ?_); refine lt_ k31 31 (N := 14) (([] : List (S31))) [] (Reps.none _ _) ?_; intro v355 w12 ho13 hb hg_ hnew_; clear hg_ hnew_; replace ho13 := rN_ Ny354 ho13; have HO356 := M_ (Kd.R_lower ho13 (bZ_ HB)); replace HB := M_ (bS_ HB hb); clear hb ho13) | ((with_reducible refine gate_builtin (b := .append) (xs := #[.tmp 14, .tmp 15]) rfl ?_); at_builtin; refine Kd.R_append_rows k31 (w0 := w) w.heap.size rfl (.tmp 14) (.tmp 15) 24 31 (.agg #[(.int .i64 0), (.int .i64 0), (.int .i64 0)]) 24 rfl Tryz.underlying24 info31 rfl (by decide) (by omega) v355 y354 l0 _ _ _ (fun _ => True) (fun _ => False) rfl rfl ?aO ?aR (fun _ _ h => h) (fun _ h => h.elim) ?aF ?aB ?aS ?aL ?_; (case aR => exact cU_ (Kd.C_below HR0.out HB.out)); (case aB => exact (bU_ HB)); (case aF => exact (fun _ _ => trivial)); (case aO => exact (rU_ HO356.out)); (case aS => exact (bZ_ HB)); (case aL => have := LMc7.out; omega); intro v358 w14 ho hb hg hat; rw [← Ny357.out] at ho; replace HB := M_ (hb); have HO359 := M_ (ho); clear HO356; clear ho hb hg hat) | ((with_reducible refine gate_builtin (b := .append) (xs := #[.tmp 16, .tmp 17]) rfl ?_); at_builtin; refine Kd.R_append_rows k31 (w0 := w) w.heap.size rfl (.tmp 16) (.tmp 17) 24 31 (.agg #[(.int .i64 0), (.int .i64 0), (.int .i64 0)]) 24 rfl Tryz.underlying24 info31 rfl (by decide) (by omega) v358 y357 l1 _ _ _ (fun _ => True) (fun _ => False) rfl rfl ?aO ?aR (fun _ _ h => h) (fun _ h => h.elim) ?aF ?aB ?aS ?aL ?_; (case aR => exact cU_ (Kd.C_below HR1.out HB.out)); (case aB => exact (bU_ HB)); (case aF => exact (fun _ _ => trivial)); (case aO => exact (rU_ HO359.out)); (case aS => exact (bZ_ HB)); (case aL => have := LMc8.out; omega); intro v361 w15 ho hb hg hat; rw [← Ny360.out] at ho; replace HB := M_ (hb); have HO362 := M_ (ho); clear HO359; clear ho hb hg hat; obtain ⟨Ao16, co16, eo16⟩ := Kd.R_slice HO362.out; subst eo16) | ((with_reducible refine gc_ 45 ?_); refine gM_ (some 19) Tryz.func45 #[.slice Ao16 y360.length co16] ?_; (with_reducible refine (spec_ntSorted.calls k _ _ y360 t363 t364 _ ?side1 ?side2 A9.out).mono ?_); (case side1 => exact cU_ (Kd.R_reads' HO362.out).2.2); (case side2 => exact (Kd.R_reads' HO362.out).2.1); rintro e w17 ⟨v365, rfl, ho0, hb⟩; refine ⟨_, rfl, ?_⟩; have HO366 := M_ (Kd.R_lower (Kd.R_new' ho0 (rl_ HO362)) (bZ_ HB)); replace HO362 := M_ (re_ HO362 ho0 hb); replace HB := M_ (bS_ HB hb); clear hb ho0))
     go_ret2
     exact ⟨_, eR_, by (with_reducible repeat (first | apply ra_ | apply rn_ | apply rd_)); exact rm_ HO366.out (fun _ hk => trivial), bU_ HB⟩
    ·rw [if_neg c8] at H
     exact absurd H (by simp)
   ·rw [if_neg c7] at H
    exact absurd H (by simp)
  ·replace c6 := Bool.eq_false_iff.mpr c6
   subst c6
   rw [if_neg (show ¬ (false = true) by decide)] at H
   simp only [Option.some.injEq, Prod.mk.injEq] at H;obtain ⟨rfl, rfl⟩ := H
   go_enter Tryz.func14, Tryz.ntmps14
   go_wp2_with (first | ((with_reducible refine gc_ 49 ?_); refine gM_ (some 7) Tryz.func49 #[.slice A0 l0.length c0] ?_; (with_reducible refine (spec_ntGood.calls k _ _ l0 true _ ?side1 ?side2 A3.out).mono ?_); (case side1 => exact cU_ HR0.out); (case side2 => exact HC0.out); rintro e w18 ⟨rfl, hb⟩; refine ⟨_, rfl, ?_⟩; replace HB := M_ (bS_ HB hb); clear hb) | (go_at_call 49; (with_reducible refine (spec_ntGood.calls k _ _ l1 false _ ?side1 ?side2 A5.out).mono ?_); (case side1 => exact cU_ (Kd.C_below HR1.out HB.out)); (case side2 => exact HC1.out); rintro e w19 ⟨rfl, hb⟩; replace HB := M_ (bS_ HB hb); clear hb))
   go_ret2
   exact ⟨_, eR_, by first | exact Kd.R_nil _ _ _ _ _ | exact Kd.N_nil _ _ _ _ _ | exact Kd.V_nil _ _ _ _ _ | exact Kd.Q_nil _ _ _ _ _ | exact Kd.S_nil _ _ _ _ _, bU_ HB⟩
 ·replace c4 := Bool.eq_false_iff.mpr c4
  subst c4
  rw [if_neg (show ¬ (false = true) by decide)] at H
  simp only [Option.some.injEq, Prod.mk.injEq] at H;obtain ⟨rfl, rfl⟩ := H
  go_enter Tryz.func14, Tryz.ntmps14
  go_wp2_with (first | ((with_reducible refine gc_ 49 ?_); refine gM_ (some 7) Tryz.func49 #[.slice A0 l0.length c0] ?_; (with_reducible refine (spec_ntGood.calls k _ _ l0 false _ ?side1 ?side2 A3.out).mono ?_); (case side1 => exact cU_ HR0.out); (case side2 => exact HC0.out); rintro e w20 ⟨rfl, hb⟩; refine ⟨_, rfl, ?_⟩; replace HB := M_ (bS_ HB hb); clear hb))
  go_ret2
  exact ⟨_, eR_, by first | exact Kd.R_nil _ _ _ _ _ | exact Kd.N_nil _ _ _ _ _ | exact Kd.V_nil _ _ _ _ _ | exact Kd.Q_nil _ _ _ _ _ | exact Kd.S_nil _ _ _ _ _, bU_ HB⟩
def spec_DrawSoundingAt.f (k : Nat) (l0 : List Int) : Option ((List (S31)) × Int) := (newCur.f l0).bind fun bt367 => ((spec_l1Cur_anyScore.f k bt367.1 bt367.2.1 bt367.2.2).bind fun bt371 => ((spec_l1Cur_pick.f bt367.1 bt371.2.1 bt371.2.2 50).bind fun bt376 => ((spec_l1Cur_pick.f bt367.1 bt376.2.1 bt376.2.2 50).bind fun bt379 => ((spec_l1Cur_among.f bt367.1 bt379.2.1 bt379.2.2 (([1099, 1100, (-1)] : List Int))).bind fun bt385 => ((spec_l1Cur_among.f bt367.1 bt385.2.1 bt385.2.2 (([0, 2, 4, bt376.1, bt379.1, 999, 1097, bt385.1] : List Int))).bind fun bt391 => (some (bt371.1, bt391.1)))))))
theorem spec_DrawSoundingAt.mono : ∀ a0 k, LeO (spec_DrawSoundingAt.f k a0) (spec_DrawSoundingAt.f (k + 1) a0) := by
 intro a0 k
 unfold spec_DrawSoundingAt.f
 have m0_ := @spec_l1Cur_anyScore.mono;exact mo_
set_option maxHeartbeats 8000000 in
set_option maxRecDepth 100000 in
theorem spec_DrawSoundingAt.calls (k : Nat) (A0 : Option Addr) (c0 : Nat) (l0 : List Int) (r1 : List (S31)) (r2 : Int) (w : World) (hr0 : Kd.C (Kd.int .u8) w A0 l0.length l0) (hc0 : l0.length ≤ c0) (h : spec_DrawSoundingAt.f k l0 = some (r1, r2)) :
  Calls Tryz.prog 15 #[.slice A0 l0.length c0] w fun e w' => ∃ v0_ : Value, e = .returned (.tuple #[v0_, .int .i64 r2]) ∧ Kd.R k31 31 w' w.heap.size (fun _ => True) v0_ r1 ∧ Below w.heap.size w w' := by
 have HR0 := M_ hr0;have HC0 := M_ hc0;clear hr0 hc0;have HB := M_ (Below.refl w.heap.size w)
 have H : ((newCur.f l0).bind fun bt367 => ((spec_l1Cur_anyScore.f k bt367.1 bt367.2.1 bt367.2.2).bind fun bt371 => ((spec_l1Cur_pick.f bt367.1 bt371.2.1 bt371.2.2 50).bind fun bt376 => ((spec_l1Cur_pick.f bt367.1 bt376.2.1 bt376.2.2 50).bind fun bt379 => ((spec_l1Cur_among.f bt367.1 bt379.2.1 bt379.2.2 (([1099, 1100, (-1)] : List Int))).bind fun bt385 => ((spec_l1Cur_among.f bt367.1 bt385.2.1 bt385.2.2 (([0, 2, 4, bt376.1, bt379.1, 999, 1097, bt385.1] : List Int))).bind fun bt391 => (some (bt371.1, bt391.1)))))))) = some (r1, r2) := h
 clear h;replace H := Option.bind_eq_some_iff.mp H;obtain ⟨⟨t367, t368, t369⟩, A20, H⟩ := H;(try dsimp only at H);have A2 := M_ A20;clear A20;replace H := Option.bind_eq_some_iff.mp H;obtain ⟨⟨t371, t374, t375⟩, A30, H⟩ := H;(try dsimp only at H);have A3 := M_ A30;clear A30;replace H := Option.bind_eq_some_iff.mp H;obtain ⟨⟨t376, t377, t378⟩, A40, H⟩ := H;(try dsimp only at H);have A4 := M_ A40;clear A40;replace H := Option.bind_eq_some_iff.mp H;obtain ⟨⟨t379, t380, t381⟩, A50, H⟩ := H;(try dsimp only at H);have A5 := M_ A50;clear A50;obtain ⟨y382, hy382⟩ : ∃ y_ : List Int, y_ = (([1099, 1100, (-1)] : List Int)) := ⟨_, rfl⟩
 replace H : ((spec_l1Cur_among.f t367 t380 t381 y382).bind fun bt385 => ((spec_l1Cur_among.f t367 bt385.2.1 bt385.2.2 (([0, 2, 4, t376, t379, 999, 1097, bt385.1] : List Int))).bind fun bt391 => (some (t371, bt391.1)))) = some (r1, r2) := by first | (rw [hy382]; with_reducible exact H) | (have H2_ := (Option.bind_some _ _).symm.trans H; rw [hy382]; with_reducible exact H2_) | (have H2_ := (Option.bind_some _ _).symm.trans H; with_reducible exact H2_) | with_reducible exact H | (rw [hy382]; exact H) | exact H
 have Ny382 := M_ hy382;clear hy382;replace H := Option.bind_eq_some_iff.mp H;obtain ⟨⟨t385, t386, t387⟩, A60, H⟩ := H;(try dsimp only at H);have A6 := M_ A60;clear A60;obtain ⟨y388, hy388⟩ : ∃ y_ : List Int, y_ = (([0, 2, 4, t376, t379, 999, 1097, t385] : List Int)) := ⟨_, rfl⟩
 replace H : ((spec_l1Cur_among.f t367 t386 t387 y388).bind fun bt391 => (some (t371, bt391.1))) = some (r1, r2) := by first | (rw [hy388]; with_reducible exact H) | (have H2_ := (Option.bind_some _ _).symm.trans H; rw [hy388]; with_reducible exact H2_) | (have H2_ := (Option.bind_some _ _).symm.trans H; with_reducible exact H2_) | with_reducible exact H | (rw [hy388]; exact H) | exact H
 have Ny388 := M_ hy388;clear hy388;replace H := Option.bind_eq_some_iff.mp H;obtain ⟨⟨t391, t392, t393⟩, A70, H⟩ := H;replace H : (some (t371, t391)) = some (r1, r2) := H;have A7 := M_ A70;clear A70;simp only [Option.some.injEq, Prod.mk.injEq] at H;obtain ⟨rfl, rfl⟩ := H
 go_enter Tryz.func15, Tryz.ntmps15
 go_wp2_with (first | ((with_reducible refine gate_dst (N := 7) rfl ?_); refine bx_ (N := 7) (cs := #[.slice A0 l0.length c0, .int .i64 0, .int .u64 0]) (t := 58) ?_; intro g370 hg w8 hbox hb2; have hb := bS_ HB hb2; have hi := newCur_is A2.out (by exact HR0.out) hbox (by rw [hg]; exact (bZ_ HB)); clear hg hbox; replace HB := M_ (hb); have HI370 := M_ (hi); clear hb) | ((with_reducible refine gc_ 41 ?_); refine gM_ (some 9) Tryz.func41 #[.pointer (some ⟨g370, 0, none⟩)] ?_; (with_reducible refine (spec_l1Cur_anyScore.calls k g370 t367 t368 t369 t371 t374 t375 w _ ?side1 ?side2 A3.out).mono ?_); (case side1 => exact iU_ HI370); (case side2 => exact bU_ HB); rintro e w9 ⟨v372, rfl, ho0, hi, hb, hk⟩; refine ⟨_, rfl, ?_⟩; have HO373 := M_ (Kd.R_lower ho0 (bZ_ HB)); replace HB := M_ (hb); replace HI370 := M_ (hi); clear hb hk hi ho0) | ((with_reducible refine gc_ 42 ?_); refine gM_ (some 12) Tryz.func42 #[.pointer (some ⟨g370, 0, none⟩), .int .i64 50] ?_; (with_reducible refine (spec_l1Cur_pick.calls g370 t367 t374 t375 50 t376 t377 t378 w _ ?side1 ?side2 A4.out).mono ?_); (case side1 => exact iU_ HI370); (case side2 => exact bU_ HB); rintro e w10 ⟨rfl, hi, hb, hk⟩; refine ⟨_, rfl, ?_⟩; replace HO373 := M_ (ik_ HI370 HO373 hk); replace HB := M_ (hb); replace HI370 := M_ (hi); clear hb hk hi) | ((with_reducible refine gc_ 42 ?_); refine gM_ (some 14) Tryz.func42 #[.pointer (some ⟨g370, 0, none⟩), .int .i64 50] ?_; (with_reducible refine (spec_l1Cur_pick.calls g370 t367 t377 t378 50 t379 t380 t381 w _ ?side1 ?side2 A5.out).mono ?_); (case side1 => exact iU_ HI370); (case side2 => exact bU_ HB); rintro e w11 ⟨rfl, hi, hb, hk⟩; refine ⟨_, rfl, ?_⟩; replace HO373 := M_ (ik_ HI370 HO373 hk); replace HB := M_ (hb); replace HI370 := M_ (hi); clear hb hk hi) | ((with_reducible refine gate_dst (N := 16) rfl ?_); refine lt_ (Kd.int .i64) 3 (N := 16) (([1099, 1100, (-1)] : List Int)) [.int .i64 1099, .int .i64 1100, .int .i64 (-1)] ri_ ?_; intro v383 w12 ho13 hb hg_ hnew_; clear hg_ hnew_; replace ho13 := rN_ Ny382 ho13; replace HO373 := M_ (rB_ HO373 hb); have HO384 := M_ (Kd.R_lower ho13 (bZ_ HB)); replace HI370 := M_ (IsS58.below (iU_ HI370) hb); replace HB := M_ (bS_ HB hb); clear hb ho13; obtain ⟨Ao14, co14, eo14⟩ := Kd.R_slice HO384.out; subst eo14) | ((with_reducible refine gc_ 50 ?_); refine gM_ (some 17) Tryz.func50 #[.pointer (some ⟨g370, 0, none⟩), .slice Ao14 y382.length co14] ?_; (with_reducible refine (spec_l1Cur_among.calls g370 t367 t380 t381 _ _ y382 t385 t386 t387 w _ ?side1 ?side2 ?side3 ?side4 ?side5 A6.out).mono ?_); (case side1 => exact iU_ HI370); (case side2 => exact bU_ HB); (case side3 => exact cU_ (Kd.R_reads' HO384.out).2.2); (case side4 => exact (Kd.R_reads' HO384.out).2.1); (case side5 => exact far_slice (IsS58.own_ne HI370.out HO384.out (by decide))); rintro e w15 ⟨rfl, hi, hb, hk⟩; refine ⟨_, rfl, ?_⟩; replace HO373 := M_ (ik_ HI370 HO373 hk); replace HO384 := M_ (ik_ HI370 HO384 hk); replace HB := M_ (hb); replace HI370 := M_ (hi); clear hb hk hi) | ((with_reducible refine gate_dst (N := 18) rfl ?_); refine lt_ (Kd.int .i64) 3 (N := 18) (([0, 2, 4, t376, t379, 999, 1097, t385] : List Int)) [.int .i64 0, .int .i64 2, .int .i64 4, .int .i64 t376, .int .i64 t379, .int .i64 999, .int .i64 1097, .int .i64 t385] ri_ ?_; intro v389 w16 ho17 hb hg_ hnew_; clear hg_ hnew_; replace ho17 := rN_ Ny388 ho17; replace HO373 := M_ (rB_ HO373 hb); have HO390 := M_ (Kd.R_lower (Kd.R_new' ho17 (rl_ HO384)) (bZ_ HB)); replace HO384 := M_ (re_ HO384 ho17 hb); replace HI370 := M_ (IsS58.below (iU_ HI370) hb); replace HB := M_ (bS_ HB hb); clear hb ho17; obtain ⟨Ao18, co18, eo18⟩ := Kd.R_slice HO390.out; subst eo18) | ((with_reducible refine gc_ 50 ?_); refine gM_ (some 19) Tryz.func50 #[.pointer (some ⟨g370, 0, none⟩), .slice Ao18 y388.length co18] ?_; (with_reducible refine (spec_l1Cur_among.calls g370 t367 t386 t387 _ _ y388 t391 t392 t393 w _ ?side1 ?side2 ?side3 ?side4 ?side5 A7.out).mono ?_); (case side1 => exact iU_ HI370); (case side2 => exact bU_ HB); (case side3 => exact cU_ (Kd.R_reads' HO390.out).2.2); (case side4 => exact (Kd.R_reads' HO390.out).2.1); (case side5 => exact far_slice (IsS58.own_ne HI370.out HO390.out (by decide))); rintro e w19 ⟨rfl, hi, hb, hk⟩; refine ⟨_, rfl, ?_⟩; replace HO373 := M_ (ik_ HI370 HO373 hk); replace HO384 := M_ (ik_ HI370 HO384 hk); replace HO390 := M_ (ik_ HI370 HO390 hk); replace HB := M_ (hb); replace HI370 := M_ (hi); clear hb hk hi))
 go_ret2
 exact ⟨_, eR_, rU_ HO373.out, bU_ HB⟩
-- NOT PRINTED: function 146 (cmp_isNaN_int)

-- NOT PRINTED: function 126 (cmp_Less_int)

-- NOT PRINTED: function 120 (slices_insertionSortOrdered_int)

-- NOT PRINTED: function 141 (slices_siftDownOrdered_int)

-- NOT PRINTED: function 121 (slices_heapSortOrdered_int)

-- NOT PRINTED: function 129 (bits_Len32)

-- NOT PRINTED: function 130 (bits_Len64)

-- NOT PRINTED: function 102 (bits_Len)

-- NOT PRINTED: function 142 (slices_nextPowerOfTwo)

-- NOT PRINTED: function 143 (slices_xorshift_Next)

-- NOT PRINTED: function 122 (slices_breakPatternsOrdered_int)

-- NOT PRINTED: function 158 (slices_order2Ordered_int)

-- NOT PRINTED: function 145 (slices_medianOrdered_int)

-- NOT PRINTED: function 144 (slices_medianAdjacentOrdered_int)

-- NOT PRINTED: function 123 (slices_choosePivotOrdered_int)

-- NOT PRINTED: function 124 (slices_reverseRangeOrdered_int)

-- NOT PRINTED: function 125 (slices_partialInsertionSortOrdered_int)

-- NOT PRINTED: function 127 (slices_partitionEqualOrdered_int)

-- NOT PRINTED: function 128 (slices_partitionOrdered_int)

-- NOT PRINTED: function 101 (slices_pdqsortOrdered_int)

-- NOT PRINTED: function 82 (slices_Sort_int_int)

-- XNAME sort_Ints sort_Ints
-- XSHELF
theorem own_shrink {w : World} {base g n c : Nat} {e : TypeId} {size : Nat} {xs : List Value} (h : w.ownsRow base e size (.slice (some ⟨g, 0, none⟩) n c) n xs) (m : Nat) (hm : m ≤ n) : w.ownsRow base e size (.slice (some ⟨g, 0, none⟩) m c) m (xs.take (m * size)) := by
 have hmul : m * size ≤ n * size := Nat.mul_le_mul_right _ hm
 rcases h.2 with ⟨hv, _⟩ | ⟨g', cap, cur, hv, hb, hh, hl, hcm, hcs, ht⟩
 ·cases hv
 injection hv with ha _ hc
 injection ha with ha
 injection ha with hg
 subst hg; subst hc;refine ⟨by rw [List.length_take, h.1]; omega, .inr ⟨g, c, cur, rfl, hb, hh, by omega, hcm, hcs, ?_⟩⟩
 rw [← ht, List.take_take, Nat.min_eq_left hmul]
def sort_Ints.f (l0 : List Int) : Option (List Int) := if l0.length < 4611686018427387904 then some (l0.mergeSort fun x y => decide (x ≤ y)) else none
set_option maxHeartbeats 8000000 in
open Go.Sort in
theorem sort_Ints.calls (P0_ : Nat → Prop) (u9000_ : Value) (l0 : List Int) (r1 : List Int) (w0 w : World) (hB : Below w0.heap.size w0 w) (ho0 : Kd.R (Kd.int .i64) 3 w w0.heap.size P0_ u9000_ l0) (h : sort_Ints.f l0 = some r1) :
  Calls Tryz.prog 51 #[u9000_] w fun e w' => e = .returned (.tuple #[]) ∧ Kd.R (Kd.int .i64) 3 w' w0.heap.size (fun k_ => (P0_ k_ ∨ w.heap.size ≤ k_)) u9000_ r1 ∧ Below w0.heap.size w0 w' ∧ Kept w w' (fun k_ => P0_ k_) := by
 unfold sort_Ints.f at h
 by_cases hl : l0.length < 4611686018427387904
 case neg => rw [if_neg hl] at h; cases h
 rw [if_pos hl] at h
 obtain rfl := Option.some.inj h;clear h;have hown := Kd.own_of_R (h1 := fun _ => rfl) ho0
 rcases hown.2 with ⟨rfl, hz⟩ | ⟨g, cap, cur, rfl, hg, hh, hn, hm, hsz, ht⟩
 ·have e0 : l0 = [] := List.eq_nil_of_length_eq_zero hz
  subst e0;refine (Tryz.sort_Ints_none none 0 w).mono ?_;rintro e w' ⟨rfl, rfl⟩;exact ⟨rfl, by rw [List.mergeSort_nil]; exact Kd.R_nil _ _ _ _ _, hB, Kept.refl _ _⟩
 ·have hP := ho0.1 g (by simp [Value.ownBlock])
  rw [Nat.mul_one] at ht
  refine (Tryz.sort_Ints g 0 cap l0 w (holds_of_blockI hh ht) (blk_lt hh) hl).mono ?_;rintro e w' ⟨rfl, n, os, rfl⟩
  have hlen : (l0.mergeSort fun x y => decide (x ≤ y)).length = l0.length := List.length_mergeSort _
  have hg2 := grownBy_sortedI (w := w) (g := g) (n := n) (os := os) (l0.mergeSort fun x y => decide (x ≤ y)).toArray;have ho := ownsRow_sortedI (w := w) (n := n) (os := os) hlen hg hh hn hm hsz
  rw [← hlen] at ho
  refine ⟨rfl, ?_, hB.grown hg2 hB.size (fun k hk => by injection hk with hk; subst hk; exact hg), Kept.of_grown hg2 (Kept.refl w _) (fun k hk => by injection hk with hk; subst hk; exact .inl hP)⟩
  rw [← hlen]
  exact Kd.R_of_own (h1 := fun _ => rfl) ho (fun k hk => by simp [Value.ownBlock] at hk; subst hk; exact .inl hP)
mutual
def impl_SoundingAt.j0 : Nat → List (S31) → Int → Bool → Option (List Int × Bool)
 | 0, _, _, _ => none
 | k + 1, x0, x1, x19 => if x19 = true then (some (([] : List Int), false)) else (impl_SoundingAt.l0 k x1 (([] : List Int)) x0 (x0.length : Int) 0)
def impl_SoundingAt.l0 : Nat → Int → List Int → List (S31) → Int → Int → Option (List Int × Bool)
 | 0, _, _, _, _, _ => none
 | k + 1, x1, x6, x21, x22, x23 => if x23 < x22 then (if 0 ≤ x23 then (if x23 < (x21.length : Int) then (if ((rd_T31 x21 x23).f1) ≤ x1 then ((impl_noteEnd.f ((rd_T31 x21 x23).f0) ((rd_T31 x21 x23).f1) ((rd_T31 x21 x23).f2)).bind fun t400 => (if x1 < t400 then (if x6.length < 17592186044416 then (impl_SoundingAt.l0 k x1 (x6 ++ [(rd_T31 x21 x23).f0]) x21 x22 (wrap64 (x23 + 1))) else (none)) else (impl_SoundingAt.l0 k x1 x6 x21 x22 (wrap64 (x23 + 1))))) else (impl_SoundingAt.l0 k x1 x6 x21 x22 (wrap64 (x23 + 1)))) else (none)) else (none)) else ((sort_Ints.f x6).bind fun t404 => (some (t404, true)))
end
def impl_SoundingAt.f (k : Nat) (l0 : List (S31)) (a1 : Int) : Option (List Int × Bool) := (impl_IsScore.f k l0).bind fun t394 => (if t394 = true then (if a1 < 0 then (impl_SoundingAt.j0 k l0 a1 true) else (impl_SoundingAt.j0 k l0 a1 (decide (a1 > 1099)))) else (impl_SoundingAt.j0 k l0 a1 true))
theorem impl_SoundingAt.mono_l : ∀ k, (∀ y0 y1 y2, LeO (impl_SoundingAt.j0 k y0 y1 y2) (impl_SoundingAt.j0 (k + 1) y0 y1 y2)) ∧ (∀ y0 y1 y2 y3 y4, LeO (impl_SoundingAt.l0 k y0 y1 y2 y3 y4) (impl_SoundingAt.l0 (k + 1) y0 y1 y2 y3 y4))
 | 0 => ⟨fun _ _ _ r h => by simp [impl_SoundingAt.j0] at h, fun _ _ _ _ _ r h => by simp [impl_SoundingAt.l0] at h⟩
 | k + 1 => by
  obtain ⟨ih0, ih1⟩ := impl_SoundingAt.mono_l k;refine ⟨?_, ?_⟩
  ·intro y0 y1 y2
   unfold impl_SoundingAt.j0
   have m0_ := @impl_IsScore.mono;exact mo_
  ·intro y0 y1 y2 y3 y4
   unfold impl_SoundingAt.l0
   have m0_ := @impl_IsScore.mono;exact mo_
theorem impl_SoundingAt.mono : ∀ a0 a1 k, LeO (impl_SoundingAt.f k a0 a1) (impl_SoundingAt.f (k + 1) a0 a1) := by
 intro a0 a1 k;obtain ⟨ih0, ih1⟩ := impl_SoundingAt.mono_l k
 unfold impl_SoundingAt.f
 have m0_ := @impl_IsScore.mono;exact mo_
set_option maxHeartbeats 8000000 in
set_option maxRecDepth 100000 in
theorem impl_SoundingAt.calls (k : Nat) (A0 : Option Addr) (c0 : Nat) (l0 : List (S31)) (a1 : Int) (r1 : List Int) (r2 : Bool) (w : World) (hr0 : Kd.C k31 w A0 l0.length l0) (hc0 : l0.length ≤ c0) (h : impl_SoundingAt.f k l0 a1 = some (r1, r2)) :
  Calls Tryz.prog 16 #[.slice A0 l0.length c0, .int .i64 a1] w fun e w' => ∃ v0_ : Value, e = .returned (.tuple #[v0_, .bool r2]) ∧ Kd.R (Kd.int .i64) 3 w' w.heap.size (fun _ => True) v0_ r1 ∧ Below w.heap.size w w' := by
 have hu31 := Tryz.underlying31;have HR0 := M_ hr0;have HC0 := M_ hc0;clear hr0 hc0;have HB := M_ (Below.refl w.heap.size w)
 have H : ((impl_IsScore.f k l0).bind fun t394 => (if t394 = true then (if a1 < 0 then (impl_SoundingAt.j0 k l0 a1 true) else (impl_SoundingAt.j0 k l0 a1 (decide (a1 > 1099)))) else (impl_SoundingAt.j0 k l0 a1 true))) = some (r1, r2) := h
 clear h;have HC3 := M_ H;clear H
 go_enter Tryz.func16, Tryz.ntmps16
 go_upto_region 1 with (fail)
 go_cut [19] (fun v19 wc => ∃ (kq : Nat) (x19_2 : Bool), v19 = .bool x19_2 ∧ Aside0 (impl_SoundingAt.j0 kq l0 a1 x19_2 = some (r1, r2)) ∧ Aside0 (kq ≤ k) ∧ Aside0 (Below w.heap.size w wc))
 case first =>
  have H := HC3.out;clear HC3;replace H := Option.bind_eq_some_iff.mp H;obtain ⟨t394, A40, H⟩ := H;(try dsimp only at H);have A4 := M_ A40;clear A40
  by_cases c5 : t394 = true
  ·subst c5
   rw [if_pos rfl] at H
   by_cases c6 : a1 < 0
   focus
    rw [if_pos c6] at H
    have c6b0 : decide (a1 < 0) = true := decide_eq_true c6
   rotate_left
   focus
    rw [if_neg c6] at H
    have c6b0 : decide (a1 < 0) = false := decide_eq_false c6
   rotate_left
   all_goals
    clear c6
    (first | rw [c6b0] | (simp only [i64_w, i32_w]; rw [c6b0]) | skip)
    have H' := M_ H
    clear H
    go_wp2_with (first | ((with_reducible refine gc_ 10 ?_); refine gM_ (some 10) Tryz.func10 #[.slice A0 l0.length c0] ?_; (with_reducible refine (impl_IsScore.calls k _ _ l0 true _ ?side1 ?side2 A4.out).mono ?_); (case side1 => exact cU_ (Kd.C_below HR0.out HB.out)); (case side2 => exact HC0.out); rintro e w7 ⟨rfl, hb⟩; refine ⟨_, rfl, ?_⟩; replace HB := M_ (bS_ HB hb); clear hb))
    go_meet
   ·case rel => exact ⟨_, (true), eD_, H', ⟨by first | omega | exact Nat.le_refl _⟩, ⟨bU_ HB⟩⟩
   ·case rel => exact ⟨_, (decide (a1 > 1099)), eD_, H', ⟨by first | omega | exact Nat.le_refl _⟩, ⟨bU_ HB⟩⟩
  ·replace c5 := Bool.eq_false_iff.mpr c5
   subst c5
   rw [if_neg (show ¬ (false = true) by decide)] at H
   have H' := M_ H
   clear H
   go_wp2_with (first | ((with_reducible refine gc_ 10 ?_); refine gM_ (some 10) Tryz.func10 #[.slice A0 l0.length c0] ?_; (with_reducible refine (impl_IsScore.calls k _ _ l0 false _ ?side1 ?side2 A4.out).mono ?_); (case side1 => exact cU_ (Kd.C_below HR0.out HB.out)); (case side2 => exact HC0.out); rintro e w9 ⟨rfl, hb⟩; refine ⟨_, rfl, ?_⟩; replace HB := M_ (bS_ HB hb); clear hb))
   go_meet
   case rel => exact ⟨_, (true), eD_, H', ⟨by first | omega | exact Nat.le_refl _⟩, ⟨bU_ HB⟩⟩
 case rest =>
  clear HC3;obtain ⟨kq, x19_2, rfl, HA, HJ2, HB⟩ := hcut
  cases kq with
  | zero => exact absurd HA.out (by simp [impl_SoundingAt.j0])
  | succ kj2 =>
   have H := HA.out;clear HA;simp only [impl_SoundingAt.j0] at H
   by_cases c10 : x19_2 = true
   focus
    subst c10
    rw [if_pos rfl] at H
    simp only [Option.some.injEq, Prod.mk.injEq] at H;obtain ⟨rfl, rfl⟩ := H
   rotate_left
   focus
    replace c10 := Bool.eq_false_iff.mpr c10
    subst c10
    rw [if_neg (show ¬ (false = true) by decide)] at H
    obtain ⟨y395, hy395⟩ : ∃ y_ : List Int, y_ = (([] : List Int)) := ⟨_, rfl⟩
    replace H : (impl_SoundingAt.l0 kj2 a1 y395 l0 (l0.length : Int) 0) = some (r1, r2) := by first | (rw [hy395]; with_reducible exact H) | (have H2_ := (Option.bind_some _ _).symm.trans H; rw [hy395]; with_reducible exact H2_) | (have H2_ := (Option.bind_some _ _).symm.trans H; with_reducible exact H2_) | with_reducible exact H | (rw [hy395]; exact H) | exact H
    have Ny395 := M_ hy395;clear hy395
    have H' := M_ H
    clear H
   rotate_left
   all_goals
    go_wp2_with (first | ((with_reducible refine gate_dst (N := 20) rfl ?_); refine lt_ (Kd.int .i64) 3 (N := 20) (([] : List Int)) [] ri_ ?_; intro v396 w11 ho12 hb hg_ hnew_; clear hg_ hnew_; replace ho12 := rN_ Ny395 ho12; have HO397 := M_ (Kd.R_lower ho12 (bZ_ HB)); replace HB := M_ (bS_ HB hb); clear hb ho12))
   ·go_ret2
    exact ⟨_, eR_, by first | exact Kd.R_nil _ _ _ _ _ | exact Kd.N_nil _ _ _ _ _ | exact Kd.V_nil _ _ _ _ _ | exact Kd.Q_nil _ _ _ _ _ | exact Kd.S_nil _ _ _ _ _, bU_ HB⟩
   ·go_loopg [6, 23] kj2 (fun kq v6 v23 w' => ∃ (x6_2 : List Int) (x23_2 : Int), v23 = .int .i64 x23_2 ∧ Aside0 (impl_SoundingAt.l0 kq a1 x6_2 l0 (l0.length : Int) x23_2 = some (r1, r2)) ∧ Aside0 (kq ≤ kj2) ∧ Aside0 (Kd.R (Kd.int .i64) 3 w' w.heap.size (fun _ => True) v6 x6_2) ∧ Aside0 (Below w.heap.size w w'))
    case atStart => exact ⟨(y395), (0), eD_, H', ⟨Nat.le_refl _⟩, ⟨rU_ HO397.out⟩, ⟨bU_ HB⟩⟩
    case round =>
     clear H';obtain ⟨x6_2, x23_2, rfl, HA, HK2, HO_6, HB⟩ := hrel
     cases gk with
     | zero => exact absurd HA.out (by simp [impl_SoundingAt.l0])
     | succ k2 =>
      have H := HA.out;clear HA;simp only [impl_SoundingAt.l0] at H
      by_cases c13 : x23_2 < (l0.length : Int)
      ·rw [if_pos c13] at H
       have c13b0 : decide (x23_2 < (l0.length : Int)) = true := decide_eq_true c13
       clear c13
       by_cases c14 : 0 ≤ x23_2
       ·rw [if_pos c14] at H
        have c14b0 : decide (0 ≤ x23_2) = true := decide_eq_true c14
        clear c14
        by_cases c15 : x23_2 < (l0.length : Int)
        ·rw [if_pos c15] at H
         have c15b0 : decide (x23_2 < (l0.length : Int)) = true := decide_eq_true c15
         clear c15
         by_cases c16 : ((rd_T31 l0 x23_2).f1) ≤ a1
         ·rw [if_pos c16] at H
          have c16b0 : decide (((rd_T31 l0 x23_2).f1) ≤ a1) = true := decide_eq_true c16
          clear c16;replace H := Option.bind_eq_some_iff.mp H;obtain ⟨t400, A170, H⟩ := H;(try dsimp only at H);have A17 := M_ A170;clear A170
          by_cases c18 : a1 < t400
          ·rw [if_pos c18] at H
           have c18b0 : decide (a1 < t400) = true := decide_eq_true c18
           clear c18
           by_cases c19 : x6_2.length < 17592186044416
           ·rw [if_pos c19] at H
            have LMc19 := M_ c19;clear c19;obtain ⟨y401, hy401⟩ : ∃ y_ : List Int, y_ = (x6_2 ++ [(rd_T31 l0 x23_2).f0]) := ⟨_, rfl⟩
            replace H : (impl_SoundingAt.l0 k2 a1 y401 l0 (l0.length : Int) (wrap64 (x23_2 + 1))) = some (r1, r2) := by first | (rw [hy401]; with_reducible exact H) | (have H2_ := (Option.bind_some _ _).symm.trans H; rw [hy401]; with_reducible exact H2_) | (have H2_ := (Option.bind_some _ _).symm.trans H; with_reducible exact H2_) | with_reducible exact H | (rw [hy401]; exact H) | exact H
            have Ny401 := M_ hy401;clear hy401
            have H' := M_ H
            clear H
            have p398 : 0 ≤ (x23_2 : Int) := dT_
            have q398 : x23_2 < (l0.length : Int) := dT_
            obtain ⟨ad398, e398, hx398_0, hx398_1, hx398_2⟩ := at_T31 HR0.out x23_2 p398 q398;cases e398;replace hx398_0 := (HB.out.cell (World.block_lt_of_cell? w _ hx398_0)).trans hx398_0;replace hx398_1 := (HB.out.cell (World.block_lt_of_cell? w _ hx398_1)).trans hx398_1;replace hx398_2 := (HB.out.cell (World.block_lt_of_cell? w _ hx398_2)).trans hx398_2;replace p398 := eq_true p398;replace q398 := eq_true q398
            go_wp2_with (first | ((with_reducible refine gate_dst (N := 8) rfl ?_); refine bx_ (N := 8) (cs := #[.int .i64 0, .int .i64 0, .int .i64 0]) (t := 31) ?_; intro gb399 hg w20 hbox hb; replace HO_6 := M_ (rB_ HO_6 hb); have BK399 := M_ (hbox); have GW399 := M_ (gw_ HB hg); have GE399 := M_ (gw_ HB hg); replace HB := M_ (bS_ HB hb); clear hb hbox hg; obtain ⟨hcz21_0, hcz21_1, hcz21_2, hfz21_0, hfz21_1, hfz21_2⟩ := bq3_ BK399) | (go_at_call 47; (with_reducible refine (impl_noteEnd.calls ((rd_T31 l0 x23_2).f0) ((rd_T31 l0 x23_2).f1) ((rd_T31 l0 x23_2).f2) t400 _ A17.out).mono ?_); rintro e w22 ⟨rfl, hb⟩; replace HO_6 := M_ (rb_ (rU_ ((rm_ (Kd.R_far (p := ⟨gb399, 2, none⟩) (Kd.R_far (p := ⟨gb399, 1, none⟩) (Kd.R_far (p := ⟨gb399, 0, none⟩) (rt_ HO_6.out BK399.out (by decide)) (fun _ hk => hk.2) (.int .i64 ((rd_T31 l0 x23_2).f0))) (fun _ hk => hk.2) (.int .i64 ((rd_T31 l0 x23_2).f1))) (fun _ hk => hk.2) (.int .i64 ((rd_T31 l0 x23_2).f2))) (fun _ h_ => h_.1)))) hb); replace BK399 := M_ (blk_below (g := gb399) (o := .cells #[.int .i64 ((rd_T31 l0 x23_2).f0), .int .i64 ((rd_T31 l0 x23_2).f1), .int .i64 ((rd_T31 l0 x23_2).f2)] 31 (0, 0)) (by (with_reducible repeat (first | refine kn_ ?_ _ | refine kd_ ?_ | refine ka_ ?_ _)); refine blk_put (cs := #[.int .i64 ((rd_T31 l0 x23_2).f0), .int .i64 ((rd_T31 l0 x23_2).f1), .int .i64 0]) ?_ 2 _ rfl; (with_reducible repeat (first | refine kn_ ?_ _ | refine kd_ ?_ | refine ka_ ?_ _)); refine blk_put (cs := #[.int .i64 ((rd_T31 l0 x23_2).f0), .int .i64 0, .int .i64 0]) ?_ 1 _ rfl; (with_reducible repeat (first | refine kn_ ?_ _ | refine kd_ ?_ | refine ka_ ?_ _)); refine blk_put (cs := #[.int .i64 0, .int .i64 0, .int .i64 0]) ?_ 0 _ rfl; (with_reducible repeat (first | refine kn_ ?_ _ | refine kd_ ?_ | refine ka_ ?_ _)); exact BK399.out) hb); replace HB := M_ (bS_ HB hb); clear hb; obtain ⟨hcz23_0, hcz23_1, hcz23_2, hfz23_0, hfz23_1, hfz23_2⟩ := bq3_ BK399) | ((with_reducible refine gate_builtin (b := .append) (xs := #[.tmp 37, .tmp 40]) rfl ?_); at_builtin; refine Kd.R_append (Kd.int .i64) (w0 := w) w.heap.size rfl (.tmp 37) (.tmp 40) 38 3 (.int .i64 0) 8 rfl Tryz.underlying38 info3 rfl (by decide) (by omega) u6 x6_2 ((rd_T31 l0 x23_2).f0) [.int .i64 ((rd_T31 l0 x23_2).f0)] (fun _ => True) (fun _ => False) rfl rfl ?aP (fun _ hk => hk.elim) ?aF ?aO ?aB ?aS ?aL ?_; (case aP => exact rfl); (case aB => exact (bU_ HB)); (case aF => exact (fun _ _ => trivial)); (case aO => exact (rU_ HO_6.out)); (case aS => exact (bZ_ HB)); (case aL => have := LMc19.out; omega); intro v402 w24 ho hb hg hat; rw [← Ny401.out] at ho; replace BK399 := M_ (kg_ BK399 hg (Kd.R_ne HO_6.out BK399.out (by decide))); replace HB := M_ (hb); have HO403 := M_ (ho); clear HO_6; clear ho hb hg hat))
            go_roundg k2
            case measure => have := HJ2.out; have := HK2.out; omega
            case rel => exact ⟨(y401), (wrap64 (x23_2 + 1)), eD_, H', ⟨by have := HJ2.out; have := HK2.out; omega⟩, ⟨rU_ HO403.out⟩, ⟨bU_ HB⟩⟩
           ·rw [if_neg c19] at H
            exact absurd H (by simp)
          ·rw [if_neg c18] at H
           have c18b0 : decide (a1 < t400) = false := decide_eq_false c18
           clear c18
           have H' := M_ H
           clear H
           have p398 : 0 ≤ (x23_2 : Int) := dT_
           have q398 : x23_2 < (l0.length : Int) := dT_
           obtain ⟨ad398, e398, hx398_0, hx398_1, hx398_2⟩ := at_T31 HR0.out x23_2 p398 q398;cases e398;replace hx398_0 := (HB.out.cell (World.block_lt_of_cell? w _ hx398_0)).trans hx398_0;replace hx398_1 := (HB.out.cell (World.block_lt_of_cell? w _ hx398_1)).trans hx398_1;replace hx398_2 := (HB.out.cell (World.block_lt_of_cell? w _ hx398_2)).trans hx398_2;replace p398 := eq_true p398;replace q398 := eq_true q398
           go_wp2_with (first | ((with_reducible refine gate_dst (N := 8) rfl ?_); refine bx_ (N := 8) (cs := #[.int .i64 0, .int .i64 0, .int .i64 0]) (t := 31) ?_; intro gb399 hg w25 hbox hb; replace HO_6 := M_ (rB_ HO_6 hb); have BK399 := M_ (hbox); have GW399 := M_ (gw_ HB hg); have GE399 := M_ (gw_ HB hg); replace HB := M_ (bS_ HB hb); clear hb hbox hg; obtain ⟨hcz26_0, hcz26_1, hcz26_2, hfz26_0, hfz26_1, hfz26_2⟩ := bq3_ BK399) | (go_at_call 47; (with_reducible refine (impl_noteEnd.calls ((rd_T31 l0 x23_2).f0) ((rd_T31 l0 x23_2).f1) ((rd_T31 l0 x23_2).f2) t400 _ A17.out).mono ?_); rintro e w27 ⟨rfl, hb⟩; replace HO_6 := M_ (rb_ (rU_ ((rm_ (Kd.R_far (p := ⟨gb399, 2, none⟩) (Kd.R_far (p := ⟨gb399, 1, none⟩) (Kd.R_far (p := ⟨gb399, 0, none⟩) (rt_ HO_6.out BK399.out (by decide)) (fun _ hk => hk.2) (.int .i64 ((rd_T31 l0 x23_2).f0))) (fun _ hk => hk.2) (.int .i64 ((rd_T31 l0 x23_2).f1))) (fun _ hk => hk.2) (.int .i64 ((rd_T31 l0 x23_2).f2))) (fun _ h_ => h_.1)))) hb); replace BK399 := M_ (blk_below (g := gb399) (o := .cells #[.int .i64 ((rd_T31 l0 x23_2).f0), .int .i64 ((rd_T31 l0 x23_2).f1), .int .i64 ((rd_T31 l0 x23_2).f2)] 31 (0, 0)) (by (with_reducible repeat (first | refine kn_ ?_ _ | refine kd_ ?_ | refine ka_ ?_ _)); refine blk_put (cs := #[.int .i64 ((rd_T31 l0 x23_2).f0), .int .i64 ((rd_T31 l0 x23_2).f1), .int .i64 0]) ?_ 2 _ rfl; (with_reducible repeat (first | refine kn_ ?_ _ | refine kd_ ?_ | refine ka_ ?_ _)); refine blk_put (cs := #[.int .i64 ((rd_T31 l0 x23_2).f0), .int .i64 0, .int .i64 0]) ?_ 1 _ rfl; (with_reducible repeat (first | refine kn_ ?_ _ | refine kd_ ?_ | refine ka_ ?_ _)); refine blk_put (cs := #[.int .i64 0, .int .i64 0, .int .i64 0]) ?_ 0 _ rfl; (with_reducible repeat (first | refine kn_ ?_ _ | refine kd_ ?_ | refine ka_ ?_ _)); exact BK399.out) hb); replace HB := M_ (bS_ HB hb); clear hb))
           go_roundg k2
           case measure => have := HJ2.out; have := HK2.out; omega
           case rel => exact ⟨(x6_2), (wrap64 (x23_2 + 1)), eD_, H', ⟨by have := HJ2.out; have := HK2.out; omega⟩, ⟨rU_ HO_6.out⟩, ⟨bU_ HB⟩⟩
         ·rw [if_neg c16] at H
          have c16b0 : decide (((rd_T31 l0 x23_2).f1) ≤ a1) = false := decide_eq_false c16
          clear c16
          have H' := M_ H
          clear H
          have p398 : 0 ≤ (x23_2 : Int) := dT_
          have q398 : x23_2 < (l0.length : Int) := dT_
          obtain ⟨ad398, e398, hx398_0, hx398_1, hx398_2⟩ := at_T31 HR0.out x23_2 p398 q398;cases e398;replace hx398_0 := (HB.out.cell (World.block_lt_of_cell? w _ hx398_0)).trans hx398_0;replace hx398_1 := (HB.out.cell (World.block_lt_of_cell? w _ hx398_1)).trans hx398_1;replace hx398_2 := (HB.out.cell (World.block_lt_of_cell? w _ hx398_2)).trans hx398_2;replace p398 := eq_true p398;replace q398 := eq_true q398
          go_wp2_with (first | ((with_reducible refine gate_dst (N := 8) rfl ?_); refine bx_ (N := 8) (cs := #[.int .i64 0, .int .i64 0, .int .i64 0]) (t := 31) ?_; intro gb399 hg w28 hbox hb; replace HO_6 := M_ (rB_ HO_6 hb); have BK399 := M_ (hbox); have GW399 := M_ (gw_ HB hg); have GE399 := M_ (gw_ HB hg); replace HB := M_ (bS_ HB hb); clear hb hbox hg; obtain ⟨hcz29_0, hcz29_1, hcz29_2, hfz29_0, hfz29_1, hfz29_2⟩ := bq3_ BK399))
          go_roundg k2
          case measure => have := HJ2.out; have := HK2.out; omega
          case rel => exact ⟨(x6_2), (wrap64 (x23_2 + 1)), eD_, H', ⟨by have := HJ2.out; have := HK2.out; omega⟩, ⟨by (with_reducible repeat (first | apply ra_ | apply rn_ | apply rd_)); exact rm_ (Kd.R_far (p := ⟨gb399, 2, none⟩) (Kd.R_far (p := ⟨gb399, 1, none⟩) (Kd.R_far (p := ⟨gb399, 0, none⟩) (rt_ HO_6.out BK399.out (by decide)) (fun _ hk => hk.2) (.int .i64 ((rd_T31 l0 x23_2).f0))) (fun _ hk => hk.2) (.int .i64 ((rd_T31 l0 x23_2).f1))) (fun _ hk => hk.2) (.int .i64 ((rd_T31 l0 x23_2).f2))) (fun _ hk => trivial)⟩, ⟨bU_ HB⟩⟩
        ·rw [if_neg c15] at H
         exact absurd H (by simp)
       ·rw [if_neg c14] at H
        exact absurd H (by simp)
      ·rw [if_neg c13] at H
       have c13b0 : decide (x23_2 < (l0.length : Int)) = false := decide_eq_false c13
       clear c13;replace H := Option.bind_eq_some_iff.mp H;obtain ⟨t404, A300, H⟩ := H;replace H : (some (t404, true)) = some (r1, r2) := H;have A30 := M_ A300;clear A300;simp only [Option.some.injEq, Prod.mk.injEq] at H;obtain ⟨rfl, rfl⟩ := H;obtain ⟨Ao31, co31, eo31⟩ := Kd.R_slice HO_6.out;subst eo31
       go_wp2_with (first | ((with_reducible refine gc_ 51 ?_); refine gM_ (some 44) Tryz.func51 #[.slice Ao31 x6_2.length co31] ?_; (with_reducible refine (sort_Ints.calls (fun k_ => some k_ = (.slice Ao31 x6_2.length co31 : Value).ownBlock) (.slice Ao31 x6_2.length co31) x6_2 t404 w _ ?side1 ?side2 A30.out).mono ?_); (case side1 => exact bU_ HB); (case side2 => exact Kd.R_tight rfl HO_6.out); rintro e w32 ⟨rfl, hy0, hb, hkp⟩; refine ⟨_, rfl, ?_⟩; replace HO_6 := M_ (Kd.R_reok rfl hy0 (fun k_ e_ => HO_6.out.1 k_ e_)); replace HB := M_ (hb); (try clear hb); (try clear hkp); (try clear hy0)))
       go_ret2
       exact ⟨_, eR_, rU_ HO_6.out, bU_ HB⟩
def spec_l1Put.l0 : Nat → List Int → Int → Int → Option (List Int)
 | 0, _, _, _ => none
 | k + 1, x0, x1, x5 => if x5 < (x0.length : Int) then (if 0 ≤ x5 then (if (rd x0 x5) < x1 then (spec_l1Put.l0 k x0 x1 (wrap64 (x5 + 1))) else (if (rd x0 x5) = x1 then (some x0) else ((some (([] : List Int) : List Int)).bind fun y407 => (if x5 ≤ (x0.length : Int) then ((some (x0.take (x5 : Int).toNat : List Int)).bind fun y410 => (if y407.length + y410.length < 17592186044416 then ((some (y407 ++ y410 : List Int)).bind fun y414 => (if y414.length < 17592186044416 then ((some (y414 ++ [x1] : List Int)).bind fun y417 => ((some (x0.drop (x5 : Int).toNat : List Int)).bind fun y420 => (if y417.length + y420.length < 17592186044416 then (some (y417 ++ y420)) else (none)))) else (none))) else (none))) else (none))))) else (none)) else ((some (([] : List Int) : List Int)).bind fun y427 => (if 0 ≤ x5 then (if x5 ≤ (x0.length : Int) then ((some (x0.take (x5 : Int).toNat : List Int)).bind fun y430 => (if y427.length + y430.length < 17592186044416 then ((some (y427 ++ y430 : List Int)).bind fun y434 => (if y434.length < 17592186044416 then ((some (y434 ++ [x1] : List Int)).bind fun y437 => ((some (x0.drop (x5 : Int).toNat : List Int)).bind fun y440 => (if y437.length + y440.length < 17592186044416 then (some (y437 ++ y440)) else (none)))) else (none))) else (none))) else (none)) else (none)))
def spec_l1Put.f (k : Nat) (l0 : List Int) (a1 : Int) : Option (List Int) := spec_l1Put.l0 k l0 a1 0
theorem spec_l1Put.mono_l : ∀ k, (∀ y0 y1 y2, LeO (spec_l1Put.l0 k y0 y1 y2) (spec_l1Put.l0 (k + 1) y0 y1 y2))
 | 0 => fun _ _ _ r h => by simp [spec_l1Put.l0] at h
 | k + 1 => by
  have ih0 := spec_l1Put.mono_l k
  ·intro y0 y1 y2
   unfold spec_l1Put.l0
   exact mo_
theorem spec_l1Put.mono : ∀ a0 a1 k, LeO (spec_l1Put.f k a0 a1) (spec_l1Put.f (k + 1) a0 a1) := by
 intro a0 a1 k;have ih0 := spec_l1Put.mono_l k
 unfold spec_l1Put.f
 exact mo_
set_option maxHeartbeats 8000000 in
set_option maxRecDepth 100000 in
theorem spec_l1Put.calls (k : Nat) (P0_ : Nat → Prop) (u9000_ : Value) (l0 : List Int) (a1 : Int) (r : List Int) (w0 w : World) (hB : Below w0.heap.size w0 w) (ho0 : Kd.R (Kd.int .i64) 3 w w0.heap.size P0_ u9000_ l0) (h : spec_l1Put.f k l0 a1 = some r) :
  Calls Tryz.prog 83 #[u9000_, .int .i64 a1] w fun e w' => ∃ v0_ : Value, e = .returned (v0_) ∧ Kd.R (Kd.int .i64) 3 w' w0.heap.size (fun k_ => (P0_ k_ ∨ w.heap.size ≤ k_)) v0_ r ∧ Below w0.heap.size w0 w' ∧ Kept w w' (fun k_ => P0_ k_) := by
 have HO0 := M_ (show Kd.R (Kd.int .i64) 3 w w0.heap.size (fun k_ => (P0_ k_ ∨ w.heap.size ≤ k_)) u9000_ l0 from rm_ ho0 (fun k_ hk => (.inl hk)));have HK := M_ (Kept.refl w (fun k_ => P0_ k_));have HW0 := M_ hB.size;have HB := M_ hB;clear hB
 have H : (spec_l1Put.l0 k l0 a1 0) = some r := h
 clear h
 have H' := M_ H
 clear H
 go_enter Tryz.func83, Tryz.ntmps83
 go_wp2
 go_loopg [5] k (fun kq v5 w' => ∃ (x5_1 : Int), v5 = .int .i64 x5_1 ∧ Aside0 (spec_l1Put.l0 kq l0 a1 x5_1 = some r) ∧ Aside0 (kq ≤ k) ∧ Aside0 (Kd.R (Kd.int .i64) 3 w' w0.heap.size (fun k_ => (P0_ k_ ∨ w.heap.size ≤ k_)) u9000_ l0) ∧ Aside0 (Kept w w' (fun k_ => P0_ k_)) ∧ Aside0 (Below w0.heap.size w0 w'))
 case atStart => exact ⟨(0), eD_, H', ⟨Nat.le_refl _⟩, ⟨rU_ HO0.out⟩, ⟨by repeat (first | (with_reducible first | exact HK.out | apply Kept.alloc | apply Kept.drewN | apply Kept.drew) | exact HK.out)⟩, ⟨bU_ HB⟩⟩
 case round =>
  clear H';obtain ⟨x5_1, rfl, HA, HK1, HO_0, HK, HB⟩ := hrel
  cases gk with
  | zero => exact absurd HA.out (by simp [spec_l1Put.l0])
  | succ k1 =>
   have H := HA.out;clear HA;simp only [spec_l1Put.l0] at H
   by_cases c3 : x5_1 < (l0.length : Int)
   ·rw [if_pos c3] at H
    have c3b0 : decide (x5_1 < (l0.length : Int)) = true := decide_eq_true c3
    clear c3
    by_cases c4 : 0 ≤ x5_1
    ·rw [if_pos c4] at H
     have c4b0 : decide (0 ≤ x5_1) = true := decide_eq_true c4
     clear c4
     by_cases c5 : (rd l0 x5_1) < a1
     ·rw [if_pos c5] at H
      have c5b0 : decide ((rd l0 x5_1) < a1) = true := decide_eq_true c5
      clear c5
      have H' := M_ H
      clear H;obtain ⟨Ao6, co6, eo6⟩ := Kd.R_slice HO_0.out;subst eo6
      have p405 : 0 ≤ (x5_1 : Int) := dT_
      have q405 : x5_1 < (l0.length : Int) := dT_
      obtain ⟨ad405, e405, hx405_0⟩ := Kd.at_int (Kd.R_reads' HO_0.out).2.2 x5_1 p405 q405;cases e405;replace p405 := eq_true p405;replace q405 := eq_true q405
      go_wp2
      go_roundg k1
      case measure => have := HK1.out; omega
      case rel => exact ⟨(wrap64 (x5_1 + 1)), eD_, H', ⟨by have := HK1.out; omega⟩, ⟨rU_ HO_0.out⟩, ⟨by repeat (first | (with_reducible first | exact HK.out | apply Kept.alloc | apply Kept.drewN | apply Kept.drew) | exact HK.out)⟩, ⟨bU_ HB⟩⟩
     ·rw [if_neg c5] at H
      have c5b0 : decide ((rd l0 x5_1) < a1) = false := decide_eq_false c5
      clear c5
      by_cases c7 : (rd l0 x5_1) = a1
      ·rw [if_pos c7] at H
       have c7b0 : ((rd l0 x5_1) == a1) = true := beq_iff_eq.mpr c7
       have c7b1 : ((rd l0 x5_1) != a1) = false := bne_eq_false_iff_eq.mpr c7
       clear c7;obtain rfl := Option.some.inj H;obtain ⟨Ao8, co8, eo8⟩ := Kd.R_slice HO_0.out;subst eo8
       have p405 : 0 ≤ (x5_1 : Int) := dT_
       have q405 : x5_1 < (l0.length : Int) := dT_
       obtain ⟨ad405, e405, hx405_0⟩ := Kd.at_int (Kd.R_reads' HO_0.out).2.2 x5_1 p405 q405;cases e405;replace p405 := eq_true p405;replace q405 := eq_true q405
       have p406 : 0 ≤ (x5_1 : Int) := dT_
       have q406 : x5_1 < (l0.length : Int) := dT_
       obtain ⟨ad406, e406, hx406_0⟩ := Kd.at_int (Kd.R_reads' HO_0.out).2.2 x5_1 p406 q406;obtain rfl : ad405 = ad406 := (by injection e406);replace p406 := eq_true p406;replace q406 := eq_true q406
       go_wp2
       go_ret
       exact ⟨_, eR_, rU_ HO_0.out, bU_ HB, by repeat (first | (with_reducible first | exact HK.out | apply Kept.alloc | apply Kept.drewN | apply Kept.drew) | exact HK.out)⟩
      ·rw [if_neg c7] at H
       have c7b0 : ((rd l0 x5_1) == a1) = false := beq_eq_false_iff_ne.mpr c7
       have c7b1 : ((rd l0 x5_1) != a1) = true := bne_iff_ne.mpr c7
       obtain ⟨y407, hy407, H⟩ := ob_ H;(try dsimp only at H);have Ny407 := M_ hy407;clear hy407;have c9b0 := eq_true (dT_ : 0 ≤ x5_1)
       by_cases c10 : x5_1 ≤ (l0.length : Int)
       ·rw [if_pos c10] at H
        have c10b0 := eq_true c10
        have c10b1 : decide (x5_1 ≤ (l0.length : Int)) = true := decide_eq_true c10
        clear c10;obtain ⟨y410, hy410, H⟩ := ob_ H;(try dsimp only at H);have Ny410 := M_ hy410;clear hy410
        by_cases c11 : y407.length + y410.length < 17592186044416
        ·rw [if_pos c11] at H
         have LMc11 := M_ c11;clear c11;obtain ⟨y414, hy414, H⟩ := ob_ H;(try dsimp only at H);have Ny414 := M_ hy414;clear hy414
         by_cases c12 : y414.length < 17592186044416
         ·rw [if_pos c12] at H
          have LMc12 := M_ c12;clear c12;obtain ⟨y417, hy417, H⟩ := ob_ H;(try dsimp only at H);have Ny417 := M_ hy417;clear hy417;have c13b0 := eq_true (dT_ : 0 ≤ x5_1);have c14b0 := eq_true (dT_ : x5_1 ≤ (l0.length : Int));obtain ⟨y420, hy420, H⟩ := ob_ H;(try dsimp only at H);have Ny420 := M_ hy420;clear hy420
          by_cases c15 : y417.length + y420.length < 17592186044416
          ·rw [if_pos c15] at H
           have LMc15 := M_ c15;clear c15;obtain ⟨y424, hy424⟩ : ∃ y_ : List Int, y_ = (y417 ++ y420) := ⟨_, rfl⟩
           replace H : (some y424) = some r := by first | (rw [hy424]; with_reducible exact H) | (have H2_ := (Option.bind_some _ _).symm.trans H; rw [hy424]; with_reducible exact H2_) | (have H2_ := (Option.bind_some _ _).symm.trans H; with_reducible exact H2_) | with_reducible exact H | (rw [hy424]; exact H) | exact H
           have Ny424 := M_ hy424;clear hy424;obtain rfl := Option.some.inj H;obtain ⟨Ao16, co16, eo16⟩ := Kd.R_slice HO_0.out;subst eo16
           have p405 : 0 ≤ (x5_1 : Int) := dT_
           have q405 : x5_1 < (l0.length : Int) := dT_
           obtain ⟨ad405, e405, hx405_0⟩ := Kd.at_int (Kd.R_reads' HO_0.out).2.2 x5_1 p405 q405;cases e405;replace p405 := eq_true p405;replace q405 := eq_true q405
           have p406 : 0 ≤ (x5_1 : Int) := dT_
           have q406 : x5_1 < (l0.length : Int) := dT_
           obtain ⟨ad406, e406, hx406_0⟩ := Kd.at_int (Kd.R_reads' HO_0.out).2.2 x5_1 p406 q406;obtain rfl : ad405 = ad406 := (by injection e406);replace p406 := eq_true p406;replace q406 := eq_true q406
           go_wp2_with (first | ((with_reducible refine gate_dst (N := 34) rfl ?_); refine lt_ (Kd.int .i64) 3 (N := 34) (([] : List Int)) [] ri_ ?_; intro v408 w17 ho18 hb hg_ hnew_; clear hg_ hnew_; replace ho18 := rN_ Ny407 ho18; have HO409 := M_ (Kd.R_lower (Kd.R_new' (Kd.R_newM (M := fun k_ => (P0_ k_ ∨ w.heap.size ≤ k_)) ho18 (by first | exact HK.out.1 | exact (show Kept w _ (fun k_ => P0_ k_) from by repeat (first | (with_reducible first | exact HK.out | apply Kept.alloc | apply Kept.drewN | apply Kept.drew) | exact HK.out)).1) (fun k_ h_ => .inr h_)) (rl_ HO_0)) (bZ_ HB)); replace HO_0 := M_ (re_ HO_0 ho18 hb); replace HK := M_ (Kept.below (S := (fun k_ => P0_ k_)) (by repeat (first | (with_reducible first | exact HK.out | apply Kept.alloc | apply Kept.drewN | apply Kept.drew) | exact HK.out)) hb); replace HB := M_ (bS_ HB hb); clear hb ho18; have q19 : (x5_1 : Int) ≤ ((l0.length : Int) : Int) := dT_; obtain ⟨i019, hi019, _, hsz19, _⟩ := info_parts info3; have hroom19 : l0.length ≤ co16 := (Kd.R_reads' HO_0.out).2.1; have hC19 : Kd.C (Kd.int .i64) _ (some ad405) l0.length l0 := (Kd.R_reads' HO_0.out).2.2; have hcut19 := cut_to (P := Tryz.prog) 38 3 .i64 Tryz.underlying38 hi019 (some ad405) l0.length co16 x5_1 (dT_) q19 hroom19; have hr19 := Kd.C_take (m := (x5_1 : Int).toNat) hC19 (by omega); have hy19 : y410.length = (x5_1 : Int).toNat := (by rw [Ny410.out, List.length_take]; omega); rw [← Ny410.out] at hr19; rw [← hy19] at hcut19; have HR413 := M_ hr19; have HC413 := M_ (show y410.length ≤ co16 from by omega); clear hr19 hC19 hroom19 hi019 hsz19; have KY19 := M_ hy19; clear hy19; have KL19 := M_ (show (x5_1 : Int).toNat ≤ l0.length from by omega); replace q19 := eq_true q19) | ((with_reducible refine gate_builtin (b := .append) (xs := #[.tmp 34, .tmp 37]) rfl ?_); at_builtin; refine Kd.R_append_rows (Kd.int .i64) (w0 := w0) w0.heap.size rfl (.tmp 34) (.tmp 37) 38 3 (.int .i64 0) 8 rfl Tryz.underlying38 info3 rfl (by decide) (by omega) v408 y407 y410 _ _ _ (fun k_ => (P0_ k_ ∨ w.heap.size ≤ k_) ∧ some k_ ≠ (.slice (some ad405) l0.length co16 : Value).ownBlock) (fun _ => False) rfl rfl ?aO ?aR (fun _ _ h => h) (fun _ h => h.elim) ?aF ?aB ?aS ?aL ?_; (case aR => repeat (first | exact (by repeat (first | (with_reducible exact HR413.out) | (with_reducible refine Kd.C_alloc ?_ _) | (with_reducible refine Kd.C_drewN ?_ _) | (with_reducible refine Kd.C_drew ?_) | exact HR413.out)) | (with_reducible refine Kd.C_alloc ?_ _) | (with_reducible refine Kd.C_drewN ?_ _) | (with_reducible refine Kd.C_drew ?_))); (case aB => exact (bU_ HB)); (case aF => exact (fun k_ hk => ⟨(.inr (Nat.le_trans (by first | exact HK.out.1 | exact (show Kept w _ (fun k_ => P0_ k_) from by repeat (first | (with_reducible first | exact HK.out | apply Kept.alloc | apply Kept.drewN | apply Kept.drew) | exact HK.out)).1) hk)), Kd.fresh' (rl_ HO_0) k_ hk⟩)); (case aO => exact (by (with_reducible repeat (first | apply ra_ | apply rn_ | apply rd_)); first | exact rm_ HO409.out (fun _ hk => ⟨hk.1.1, hk.2⟩) | exact rm_ HO409.out (fun _ hk => by refine ⟨?_, ?_⟩ <;> (first | exact hk.2 | exact hk.2.1 | exact hk.2.2 | exact hk.1.2 | exact hk.1.2.1 | exact hk.1.2.2 | exact hk.1.1.2 | exact hk.1.1.2.1 | exact hk.1.1.2.2 | exact hk.1.1.1.2 | exact hk.1.1.1.2.1 | exact hk.1.1.1.2.2 | exact hk.1.1.1.1.2 | exact hk.1.1.1.1.2.1 | exact hk.1.1.1.1.2.2 | exact hk | exact hk.1 | exact hk.1.1 | exact hk.1.1.1 | exact hk.1.1.1.1 | exact hk.1.1.1.1.1)))); (case aS => exact (bZ_ HB)); (case aL => have := LMc11.out; omega); intro v415 w20 ho hb hg hat; rw [← Ny414.out] at ho; replace HB := M_ (hb); replace HK := M_ (Kept.of_grown (S := (fun k_ => P0_ k_)) hg (by repeat (first | (with_reducible first | exact HK.out | apply Kept.alloc | apply Kept.drewN | apply Kept.drew) | exact HK.out)) (fun k_ e_ => (HO409.out.1 k_ e_).1.1)); replace HR413 := M_ ((show Kd.C (Kd.int .i64) w20 (some ad405) y410.length y410 from by rw [Ny410.out]; exact Kd.C_take (m := (x5_1 : Int).toNat) ((Kd.R_reads' (Kd.R_after (ok := (fun k_ => (P0_ k_ ∨ w.heap.size ≤ k_))) (rU_ HO_0.out) hg hat)).2.2) KL19.out)); replace HO_0 := M_ (Kd.R_after (ok := (fun k_ => (P0_ k_ ∨ w.heap.size ≤ k_))) (rU_ HO_0.out) hg hat); have HO416 := M_ (ho); clear HO409; clear ho hb hg hat) | ((with_reducible refine gate_builtin (b := .append) (xs := #[.tmp 39, .tmp 41]) rfl ?_); at_builtin; refine Kd.R_append (Kd.int .i64) (w0 := w0) w0.heap.size rfl (.tmp 39) (.tmp 41) 38 3 (.int .i64 0) 8 rfl Tryz.underlying38 info3 rfl (by decide) (by omega) v415 y414 a1 [.int .i64 a1] (fun k_ => (P0_ k_ ∨ w.heap.size ≤ k_) ∧ some k_ ≠ (.slice (some ad405) l0.length co16 : Value).ownBlock) (fun _ => False) rfl rfl ?aP (fun _ hk => hk.elim) ?aF ?aO ?aB ?aS ?aL ?_; (case aP => exact rfl); (case aB => exact (bU_ HB)); (case aF => exact (fun k_ hk => ⟨(.inr (Nat.le_trans (by first | exact HK.out.1 | exact (show Kept w _ (fun k_ => P0_ k_) from by repeat (first | (with_reducible first | exact HK.out | apply Kept.alloc | apply Kept.drewN | apply Kept.drew) | exact HK.out)).1) hk)), Kd.fresh' (rl_ HO_0) k_ hk⟩)); (case aO => exact (rU_ HO416.out)); (case aS => exact (bZ_ HB)); (case aL => have := LMc12.out; omega); intro v418 w21 ho hb hg hat; rw [← Ny417.out] at ho; replace HB := M_ (hb); replace HK := M_ (Kept.of_grown (S := (fun k_ => P0_ k_)) hg (by repeat (first | (with_reducible first | exact HK.out | apply Kept.alloc | apply Kept.drewN | apply Kept.drew) | exact HK.out)) (fun k_ e_ => (HO416.out.1 k_ e_).1)); replace HR413 := M_ ((show Kd.C (Kd.int .i64) w21 (some ad405) y410.length y410 from by rw [Ny410.out]; exact Kd.C_take (m := (x5_1 : Int).toNat) ((Kd.R_reads' (Kd.R_after (ok := (fun k_ => (P0_ k_ ∨ w.heap.size ≤ k_))) (rU_ HO_0.out) hg hat)).2.2) KL19.out)); replace HO_0 := M_ (Kd.R_after (ok := (fun k_ => (P0_ k_ ∨ w.heap.size ≤ k_))) (rU_ HO_0.out) hg hat); have HO419 := M_ (ho); clear HO416; clear ho hb hg hat; have q22 : (x5_1 : Int) ≤ ((l0.length : Int) : Int) := dT_; obtain ⟨i022, hi022, _, hsz22, _⟩ := info_parts info3; have hroom22 : l0.length ≤ co16 := (Kd.R_reads' HO_0.out).2.1; have hC22 : Kd.C (Kd.int .i64) _ (some ad405) l0.length l0 := (Kd.R_reads' HO_0.out).2.2; have q022 : (0 : Int) ≤ (x5_1 : Int) := dT_; have hcut22 := cut_from (P := Tryz.prog) 38 3 .i64 Tryz.underlying38 hi022 1 hsz22 (some ad405) l0.length co16 x5_1 q022 q22; have hr22 := Kd.C_drop (m := (x5_1 : Int).toNat) (c := co16) hC22 (by omega) hroom22; obtain ⟨A22, hA22⟩ : ∃ A1, A1 = (if co16 = (x5_1 : Int).toNat then (some ad405) else ((some ad405) : Option Addr).map (·.add ((x5_1 : Int).toNat * 1))) := ⟨_, rfl⟩; obtain ⟨c22, hc22⟩ : ∃ c1, c1 = co16 - (x5_1 : Int).toNat := ⟨_, rfl⟩; have hy22 : y420.length = l0.length - (x5_1 : Int).toNat := (by rw [Ny420.out, List.length_drop] <;> omega); rw [show (l0).drop (x5_1 : Int).toNat = y420 from Ny420.out.symm] at hr22; replace hr22 : Kd.C (Kd.int .i64) _ A22 y420.length y420 := (by rw [hA22]; exact hr22); rw [← hy22, ← hA22, ← hc22] at hcut22; have HR423 := M_ hr22; have HC423 := M_ (show y420.length ≤ c22 from by rw [hy22, hc22]; exact Nat.sub_le_sub_right hroom22 _); clear hr22 hC22 hroom22 hi022 hsz22 hc22; have KY22 := M_ hy22; have KA22 := M_ hA22; clear hy22 hA22; have KL22 := M_ (show (x5_1 : Int).toNat ≤ l0.length from by omega); replace q22 := eq_true q22) | ((with_reducible refine gate_builtin (b := .append) (xs := #[.tmp 43, .tmp 46]) rfl ?_); at_builtin; refine Kd.R_append_rows (Kd.int .i64) (w0 := w0) w0.heap.size rfl (.tmp 43) (.tmp 46) 38 3 (.int .i64 0) 8 rfl Tryz.underlying38 info3 rfl (by decide) (by omega) v418 y417 y420 _ _ _ (fun k_ => (P0_ k_ ∨ w.heap.size ≤ k_) ∧ some k_ ≠ (.slice (some ad405) l0.length co16 : Value).ownBlock) (fun _ => False) rfl rfl ?aO ?aR (fun _ _ h => h) (fun _ h => h.elim) ?aF ?aB ?aS ?aL ?_; (case aR => repeat (first | exact (by repeat (first | (with_reducible exact HR423.out) | (with_reducible refine Kd.C_alloc ?_ _) | (with_reducible refine Kd.C_drewN ?_ _) | (with_reducible refine Kd.C_drew ?_) | exact HR423.out)) | (with_reducible refine Kd.C_alloc ?_ _) | (with_reducible refine Kd.C_drewN ?_ _) | (with_reducible refine Kd.C_drew ?_))); (case aB => exact (bU_ HB)); (case aF => exact (fun k_ hk => ⟨(.inr (Nat.le_trans (by first | exact HK.out.1 | exact (show Kept w _ (fun k_ => P0_ k_) from by repeat (first | (with_reducible first | exact HK.out | apply Kept.alloc | apply Kept.drewN | apply Kept.drew) | exact HK.out)).1) hk)), Kd.fresh' (rl_ HO_0) k_ hk⟩)); (case aO => exact (rU_ HO419.out)); (case aS => exact (bZ_ HB)); (case aL => have := LMc15.out; omega); intro v425 w23 ho hb hg hat; rw [← Ny424.out] at ho; replace HB := M_ (hb); replace HK := M_ (Kept.of_grown (S := (fun k_ => P0_ k_)) hg (by repeat (first | (with_reducible first | exact HK.out | apply Kept.alloc | apply Kept.drewN | apply Kept.drew) | exact HK.out)) (fun k_ e_ => (HO419.out.1 k_ e_).1)); replace HR413 := M_ ((show Kd.C (Kd.int .i64) w23 (some ad405) y410.length y410 from by rw [Ny410.out]; exact Kd.C_take (m := (x5_1 : Int).toNat) ((Kd.R_reads' (Kd.R_after (ok := (fun k_ => (P0_ k_ ∨ w.heap.size ≤ k_))) (rU_ HO_0.out) hg hat)).2.2) KL19.out)); replace HR423 := M_ ((show Kd.C (Kd.int .i64) w23 A22 y420.length y420 from by rw [Ny420.out, KA22.out]; exact Kd.C_drop (m := (x5_1 : Int).toNat) (c := co16) ((Kd.R_reads' (Kd.R_after (ok := (fun k_ => (P0_ k_ ∨ w.heap.size ≤ k_))) (rU_ HO_0.out) hg hat)).2.2) KL22.out ((Kd.R_reads' (Kd.R_after (ok := (fun k_ => (P0_ k_ ∨ w.heap.size ≤ k_))) (rU_ HO_0.out) hg hat)).2.1))); replace HO_0 := M_ (Kd.R_after (ok := (fun k_ => (P0_ k_ ∨ w.heap.size ≤ k_))) (rU_ HO_0.out) hg hat); have HO426 := M_ (ho); clear HO419; clear ho hb hg hat))
           go_ret
           exact ⟨_, eR_, by (with_reducible repeat (first | apply ra_ | apply rn_ | apply rd_)); exact rm_ HO426.out (fun _ hk => hk.1), bU_ HB, by repeat (first | (with_reducible first | exact HK.out | apply Kept.alloc | apply Kept.drewN | apply Kept.drew) | exact HK.out)⟩
          ·rw [if_neg c15] at H
           exact absurd H (by simp)
         ·rw [if_neg c12] at H
          exact absurd H (by simp)
        ·rw [if_neg c11] at H
         exact absurd H (by simp)
       ·rw [if_neg c10] at H
        exact absurd H (by simp)
    ·rw [if_neg c4] at H
     exact absurd H (by simp)
   ·rw [if_neg c3] at H
    have c3b0 : decide (x5_1 < (l0.length : Int)) = false := decide_eq_false c3
    clear c3;obtain ⟨y427, hy427, H⟩ := ob_ H;(try dsimp only at H);have Ny427 := M_ hy427;clear hy427
    by_cases c24 : 0 ≤ x5_1
    ·rw [if_pos c24] at H
     have c24b0 := eq_true c24
     have c24b1 : decide (0 ≤ x5_1) = true := decide_eq_true c24
     clear c24
     by_cases c25 : x5_1 ≤ (l0.length : Int)
     ·rw [if_pos c25] at H
      have c25b0 := eq_true c25
      have c25b1 : decide (x5_1 ≤ (l0.length : Int)) = true := decide_eq_true c25
      clear c25;obtain ⟨y430, hy430, H⟩ := ob_ H;(try dsimp only at H);have Ny430 := M_ hy430;clear hy430
      by_cases c26 : y427.length + y430.length < 17592186044416
      ·rw [if_pos c26] at H
       have LMc26 := M_ c26;clear c26;obtain ⟨y434, hy434, H⟩ := ob_ H;(try dsimp only at H);have Ny434 := M_ hy434;clear hy434
       by_cases c27 : y434.length < 17592186044416
       ·rw [if_pos c27] at H
        have LMc27 := M_ c27;clear c27;obtain ⟨y437, hy437, H⟩ := ob_ H;(try dsimp only at H);have Ny437 := M_ hy437;clear hy437;have c28b0 := eq_true (dT_ : 0 ≤ x5_1);have c29b0 := eq_true (dT_ : x5_1 ≤ (l0.length : Int));obtain ⟨y440, hy440, H⟩ := ob_ H;(try dsimp only at H);have Ny440 := M_ hy440;clear hy440
        by_cases c30 : y437.length + y440.length < 17592186044416
        ·rw [if_pos c30] at H
         have LMc30 := M_ c30;clear c30;obtain ⟨y444, hy444⟩ : ∃ y_ : List Int, y_ = (y437 ++ y440) := ⟨_, rfl⟩
         replace H : (some y444) = some r := by first | (rw [hy444]; with_reducible exact H) | (have H2_ := (Option.bind_some _ _).symm.trans H; rw [hy444]; with_reducible exact H2_) | (have H2_ := (Option.bind_some _ _).symm.trans H; with_reducible exact H2_) | with_reducible exact H | (rw [hy444]; exact H) | exact H
         have Ny444 := M_ hy444;clear hy444;obtain rfl := Option.some.inj H;obtain ⟨Ao31, co31, eo31⟩ := Kd.R_slice HO_0.out;subst eo31
         go_wp2_with (first | ((with_reducible refine gate_dst (N := 34) rfl ?_); refine lt_ (Kd.int .i64) 3 (N := 34) (([] : List Int)) [] ri_ ?_; intro v428 w32 ho33 hb hg_ hnew_; clear hg_ hnew_; replace ho33 := rN_ Ny427 ho33; have HO429 := M_ (Kd.R_lower (Kd.R_new' (Kd.R_newM (M := fun k_ => (P0_ k_ ∨ w.heap.size ≤ k_)) ho33 (by first | exact HK.out.1 | exact (show Kept w _ (fun k_ => P0_ k_) from by repeat (first | (with_reducible first | exact HK.out | apply Kept.alloc | apply Kept.drewN | apply Kept.drew) | exact HK.out)).1) (fun k_ h_ => .inr h_)) (rl_ HO_0)) (bZ_ HB)); replace HO_0 := M_ (re_ HO_0 ho33 hb); replace HK := M_ (Kept.below (S := (fun k_ => P0_ k_)) (by repeat (first | (with_reducible first | exact HK.out | apply Kept.alloc | apply Kept.drewN | apply Kept.drew) | exact HK.out)) hb); replace HB := M_ (bS_ HB hb); clear hb ho33; have q34 : (x5_1 : Int) ≤ ((l0.length : Int) : Int) := dT_; obtain ⟨i034, hi034, _, hsz34, _⟩ := info_parts info3; have hroom34 : l0.length ≤ co31 := (Kd.R_reads' HO_0.out).2.1; have hC34 : Kd.C (Kd.int .i64) _ Ao31 l0.length l0 := (Kd.R_reads' HO_0.out).2.2; have hcut34 := cut_to (P := Tryz.prog) 38 3 .i64 Tryz.underlying38 hi034 Ao31 l0.length co31 x5_1 (dT_) q34 hroom34; have hr34 := Kd.C_take (m := (x5_1 : Int).toNat) hC34 (by omega); have hy34 : y430.length = (x5_1 : Int).toNat := (by rw [Ny430.out, List.length_take]; omega); rw [← Ny430.out] at hr34; rw [← hy34] at hcut34; have HR433 := M_ hr34; have HC433 := M_ (show y430.length ≤ co31 from by omega); clear hr34 hC34 hroom34 hi034 hsz34; have KY34 := M_ hy34; clear hy34; have KL34 := M_ (show (x5_1 : Int).toNat ≤ l0.length from by omega); replace q34 := eq_true q34) | ((with_reducible refine gate_builtin (b := .append) (xs := #[.tmp 34, .tmp 37]) rfl ?_); at_builtin; refine Kd.R_append_rows (Kd.int .i64) (w0 := w0) w0.heap.size rfl (.tmp 34) (.tmp 37) 38 3 (.int .i64 0) 8 rfl Tryz.underlying38 info3 rfl (by decide) (by omega) v428 y427 y430 _ _ _ (fun k_ => (P0_ k_ ∨ w.heap.size ≤ k_) ∧ some k_ ≠ (.slice Ao31 l0.length co31 : Value).ownBlock) (fun _ => False) rfl rfl ?aO ?aR (fun _ _ h => h) (fun _ h => h.elim) ?aF ?aB ?aS ?aL ?_; (case aR => repeat (first | exact (by repeat (first | (with_reducible exact HR433.out) | (with_reducible refine Kd.C_alloc ?_ _) | (with_reducible refine Kd.C_drewN ?_ _) | (with_reducible refine Kd.C_drew ?_) | exact HR433.out)) | (with_reducible refine Kd.C_alloc ?_ _) | (with_reducible refine Kd.C_drewN ?_ _) | (with_reducible refine Kd.C_drew ?_))); (case aB => exact (bU_ HB)); (case aF => exact (fun k_ hk => ⟨(.inr (Nat.le_trans (by first | exact HK.out.1 | exact (show Kept w _ (fun k_ => P0_ k_) from by repeat (first | (with_reducible first | exact HK.out | apply Kept.alloc | apply Kept.drewN | apply Kept.drew) | exact HK.out)).1) hk)), Kd.fresh' (rl_ HO_0) k_ hk⟩)); (case aO => exact (by (with_reducible repeat (first | apply ra_ | apply rn_ | apply rd_)); first | exact rm_ HO429.out (fun _ hk => ⟨hk.1.1, hk.2⟩) | exact rm_ HO429.out (fun _ hk => by refine ⟨?_, ?_⟩ <;> (first | exact hk.2 | exact hk.2.1 | exact hk.2.2 | exact hk.1.2 | exact hk.1.2.1 | exact hk.1.2.2 | exact hk.1.1.2 | exact hk.1.1.2.1 | exact hk.1.1.2.2 | exact hk.1.1.1.2 | exact hk.1.1.1.2.1 | exact hk.1.1.1.2.2 | exact hk.1.1.1.1.2 | exact hk.1.1.1.1.2.1 | exact hk.1.1.1.1.2.2 | exact hk | exact hk.1 | exact hk.1.1 | exact hk.1.1.1 | exact hk.1.1.1.1 | exact hk.1.1.1.1.1)))); (case aS => exact (bZ_ HB)); (case aL => have := LMc26.out; omega); intro v435 w35 ho hb hg hat; rw [← Ny434.out] at ho; replace HB := M_ (hb); replace HK := M_ (Kept.of_grown (S := (fun k_ => P0_ k_)) hg (by repeat (first | (with_reducible first | exact HK.out | apply Kept.alloc | apply Kept.drewN | apply Kept.drew) | exact HK.out)) (fun k_ e_ => (HO429.out.1 k_ e_).1.1)); replace HR433 := M_ ((show Kd.C (Kd.int .i64) w35 Ao31 y430.length y430 from by rw [Ny430.out]; exact Kd.C_take (m := (x5_1 : Int).toNat) ((Kd.R_reads' (Kd.R_after (ok := (fun k_ => (P0_ k_ ∨ w.heap.size ≤ k_))) (rU_ HO_0.out) hg hat)).2.2) KL34.out)); replace HO_0 := M_ (Kd.R_after (ok := (fun k_ => (P0_ k_ ∨ w.heap.size ≤ k_))) (rU_ HO_0.out) hg hat); have HO436 := M_ (ho); clear HO429; clear ho hb hg hat) | ((with_reducible refine gate_builtin (b := .append) (xs := #[.tmp 39, .tmp 41]) rfl ?_); at_builtin; refine Kd.R_append (Kd.int .i64) (w0 := w0) w0.heap.size rfl (.tmp 39) (.tmp 41) 38 3 (.int .i64 0) 8 rfl Tryz.underlying38 info3 rfl (by decide) (by omega) v435 y434 a1 [.int .i64 a1] (fun k_ => (P0_ k_ ∨ w.heap.size ≤ k_) ∧ some k_ ≠ (.slice Ao31 l0.length co31 : Value).ownBlock) (fun _ => False) rfl rfl ?aP (fun _ hk => hk.elim) ?aF ?aO ?aB ?aS ?aL ?_; (case aP => exact rfl); (case aB => exact (bU_ HB)); (case aF => exact (fun k_ hk => ⟨(.inr (Nat.le_trans (by first | exact HK.out.1 | exact (show Kept w _ (fun k_ => P0_ k_) from by repeat (first | (with_reducible first | exact HK.out | apply Kept.alloc | apply Kept.drewN | apply Kept.drew) | exact HK.out)).1) hk)), Kd.fresh' (rl_ HO_0) k_ hk⟩)); (case aO => exact (rU_ HO436.out)); (case aS => exact (bZ_ HB)); (case aL => have := LMc27.out; omega); intro v438 w36 ho hb hg hat; rw [← Ny437.out] at ho; replace HB := M_ (hb); replace HK := M_ (Kept.of_grown (S := (fun k_ => P0_ k_)) hg (by repeat (first | (with_reducible first | exact HK.out | apply Kept.alloc | apply Kept.drewN | apply Kept.drew) | exact HK.out)) (fun k_ e_ => (HO436.out.1 k_ e_).1)); replace HR433 := M_ ((show Kd.C (Kd.int .i64) w36 Ao31 y430.length y430 from by rw [Ny430.out]; exact Kd.C_take (m := (x5_1 : Int).toNat) ((Kd.R_reads' (Kd.R_after (ok := (fun k_ => (P0_ k_ ∨ w.heap.size ≤ k_))) (rU_ HO_0.out) hg hat)).2.2) KL34.out)); replace HO_0 := M_ (Kd.R_after (ok := (fun k_ => (P0_ k_ ∨ w.heap.size ≤ k_))) (rU_ HO_0.out) hg hat); have HO439 := M_ (ho); clear HO436; clear ho hb hg hat; have q37 : (x5_1 : Int) ≤ ((l0.length : Int) : Int) := dT_; obtain ⟨i037, hi037, _, hsz37, _⟩ := info_parts info3; have hroom37 : l0.length ≤ co31 := (Kd.R_reads' HO_0.out).2.1; have hC37 : Kd.C (Kd.int .i64) _ Ao31 l0.length l0 := (Kd.R_reads' HO_0.out).2.2; have q037 : (0 : Int) ≤ (x5_1 : Int) := dT_; have hcut37 := cut_from (P := Tryz.prog) 38 3 .i64 Tryz.underlying38 hi037 1 hsz37 Ao31 l0.length co31 x5_1 q037 q37; have hr37 := Kd.C_drop (m := (x5_1 : Int).toNat) (c := co31) hC37 (by omega) hroom37; obtain ⟨A37, hA37⟩ : ∃ A1, A1 = (if co31 = (x5_1 : Int).toNat then Ao31 else (Ao31 : Option Addr).map (·.add ((x5_1 : Int).toNat * 1))) := ⟨_, rfl⟩; obtain ⟨c37, hc37⟩ : ∃ c1, c1 = co31 - (x5_1 : Int).toNat := ⟨_, rfl⟩; have hy37 : y440.length = l0.length - (x5_1 : Int).toNat := (by rw [Ny440.out, List.length_drop] <;> omega); rw [show (l0).drop (x5_1 : Int).toNat = y440 from Ny440.out.symm] at hr37; replace hr37 : Kd.C (Kd.int .i64) _ A37 y440.length y440 := (by rw [hA37]; exact hr37); rw [← hy37, ← hA37, ← hc37] at hcut37; have HR443 := M_ hr37; have HC443 := M_ (show y440.length ≤ c37 from by rw [hy37, hc37]; exact Nat.sub_le_sub_right hroom37 _); clear hr37 hC37 hroom37 hi037 hsz37 hc37; have KY37 := M_ hy37; have KA37 := M_ hA37; clear hy37 hA37; have KL37 := M_ (show (x5_1 : Int).toNat ≤ l0.length from by omega); replace q37 := eq_true q37) | ((with_reducible refine gate_builtin (b := .append) (xs := #[.tmp 43, .tmp 46]) rfl ?_); at_builtin; refine Kd.R_append_rows (Kd.int .i64) (w0 := w0) w0.heap.size rfl (.tmp 43) (.tmp 46) 38 3 (.int .i64 0) 8 rfl Tryz.underlying38 info3 rfl (by decide) (by omega) v438 y437 y440 _ _ _ (fun k_ => (P0_ k_ ∨ w.heap.size ≤ k_) ∧ some k_ ≠ (.slice Ao31 l0.length co31 : Value).ownBlock) (fun _ => False) rfl rfl ?aO ?aR (fun _ _ h => h) (fun _ h => h.elim) ?aF ?aB ?aS ?aL ?_; (case aR => repeat (first | exact (by repeat (first | (with_reducible exact HR443.out) | (with_reducible refine Kd.C_alloc ?_ _) | (with_reducible refine Kd.C_drewN ?_ _) | (with_reducible refine Kd.C_drew ?_) | exact HR443.out)) | (with_reducible refine Kd.C_alloc ?_ _) | (with_reducible refine Kd.C_drewN ?_ _) | (with_reducible refine Kd.C_drew ?_))); (case aB => exact (bU_ HB)); (case aF => exact (fun k_ hk => ⟨(.inr (Nat.le_trans (by first | exact HK.out.1 | exact (show Kept w _ (fun k_ => P0_ k_) from by repeat (first | (with_reducible first | exact HK.out | apply Kept.alloc | apply Kept.drewN | apply Kept.drew) | exact HK.out)).1) hk)), Kd.fresh' (rl_ HO_0) k_ hk⟩)); (case aO => exact (rU_ HO439.out)); (case aS => exact (bZ_ HB)); (case aL => have := LMc30.out; omega); intro v445 w38 ho hb hg hat; rw [← Ny444.out] at ho; replace HB := M_ (hb); replace HK := M_ (Kept.of_grown (S := (fun k_ => P0_ k_)) hg (by repeat (first | (with_reducible first | exact HK.out | apply Kept.alloc | apply Kept.drewN | apply Kept.drew) | exact HK.out)) (fun k_ e_ => (HO439.out.1 k_ e_).1)); replace HR433 := M_ ((show Kd.C (Kd.int .i64) w38 Ao31 y430.length y430 from by rw [Ny430.out]; exact Kd.C_take (m := (x5_1 : Int).toNat) ((Kd.R_reads' (Kd.R_after (ok := (fun k_ => (P0_ k_ ∨ w.heap.size ≤ k_))) (rU_ HO_0.out) hg hat)).2.2) KL34.out)); replace HR443 := M_ ((show Kd.C (Kd.int .i64) w38 A37 y440.length y440 from by rw [Ny440.out, KA37.out]; exact Kd.C_drop (m := (x5_1 : Int).toNat) (c := co31) ((Kd.R_reads' (Kd.R_after (ok := (fun k_ => (P0_ k_ ∨ w.heap.size ≤ k_))) (rU_ HO_0.out) hg hat)).2.2) KL37.out ((Kd.R_reads' (Kd.R_after (ok := (fun k_ => (P0_ k_ ∨ w.heap.size ≤ k_))) (rU_ HO_0.out) hg hat)).2.1))); replace HO_0 := M_ (Kd.R_after (ok := (fun k_ => (P0_ k_ ∨ w.heap.size ≤ k_))) (rU_ HO_0.out) hg hat); have HO446 := M_ (ho); clear HO439; clear ho hb hg hat))
         go_ret
         exact ⟨_, eR_, by (with_reducible repeat (first | apply ra_ | apply rn_ | apply rd_)); exact rm_ HO446.out (fun _ hk => hk.1), bU_ HB, by repeat (first | (with_reducible first | exact HK.out | apply Kept.alloc | apply Kept.drewN | apply Kept.drew) | exact HK.out)⟩
        ·rw [if_neg c30] at H
         exact absurd H (by simp)
       ·rw [if_neg c27] at H
        exact absurd H (by simp)
      ·rw [if_neg c26] at H
       exact absurd H (by simp)
     ·rw [if_neg c25] at H
      exact absurd H (by simp)
    ·rw [if_neg c24] at H
     exact absurd H (by simp)
end Go.Proofs.YtfpfjnmjekjnhaaGreatDoor.PFnNotes
