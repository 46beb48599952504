-- by wip/xprint.py, over the kit's printer
import Derived.Test.YtfpfjnmjekjnhaaGreatDoorPFnScoresx0
import Derived.Test.YtfpfjnmjekjnhaaGreatDoorPFnScoresx7
import Derived.Test.YtfpfjnmjekjnhaaGreatDoorPFnScoresx8
import Derived.Test.YtfpfjnmjekjnhaaGreatDoorPFnScoresx16
namespace Go.Proofs.YtfpfjnmjekjnhaaGreatDoor.PFnScores
open Go.RowKit Go.Proofs.YtfpfjnmjekjnhaaGreatDoorW.PrintWords Go.Proofs.YtfpfjnmjekjnhaaGreatDoorW.PrintLast Go.Proofs.YtfpfjnmjekjnhaaGreatDoorW.PrintMore
attribute [local go_sem] max2_int min2_int max_two min_two max_three min_three max_four min_four   -- for this text's walks alone
set_option linter.unusedVariables false
set_option linter.unusedSimpArgs false

def spec_MoveScore.f (k : Nat) (l0 : List (S31)) (a1 : Int) : Option ((List (S31)) × Bool) := (spec_ntGood.f k l0).bind fun t501 => (if t501 = true then ((spec_l1In.f a1 (-999) 999).bind fun t502 => (if t502 = true then ((spec_ntChanged.f k l0 0 a1).bind fun bt503 => (some (bt503.1, bt503.2))) else (some (([] : List (S31)), false)))) else (some (([] : List (S31)), false)))
theorem spec_MoveScore.mono : ∀ a0 a1 k, LeO (spec_MoveScore.f k a0 a1) (spec_MoveScore.f (k + 1) a0 a1) := by
 intro a0 a1 k
 unfold spec_MoveScore.f
 have m0_ := @spec_ntChanged.mono;have m1_ := @spec_ntGood.mono;exact mo_
set_option maxHeartbeats 8000000 in
set_option maxRecDepth 100000 in
theorem spec_MoveScore.calls (k : Nat) (A0 : Option Addr) (c0 : Nat) (l0 : List (S31)) (a1 : Int) (r1 : List (S31)) (r2 : Bool) (w : World) (hr0 : Kd.C k31 w A0 l0.length l0) (hc0 : l0.length ≤ c0) (h : spec_MoveScore.f k l0 a1 = some (r1, r2)) :
  Calls Tryz.prog 40 #[.slice A0 l0.length c0, .int .i64 a1] w fun e w' => ∃ v0_ : Value, e = .returned (.tuple #[v0_, .bool r2]) ∧ Kd.R k31 31 w' w.heap.size (fun _ => True) v0_ r1 ∧ Below w.heap.size w w' := by
 have HR0 := M_ hr0;have HC0 := M_ hc0;clear hr0 hc0;have HB := M_ (Below.refl w.heap.size w)
 have H : ((spec_ntGood.f k l0).bind fun t501 => (if t501 = true then ((spec_l1In.f a1 (-999) 999).bind fun t502 => (if t502 = true then ((spec_ntChanged.f k l0 0 a1).bind fun bt503 => (some (bt503.1, bt503.2))) else (some (([] : List (S31)), false)))) else (some (([] : List (S31)), false)))) = some (r1, r2) := h
 clear h;replace H := Option.bind_eq_some_iff.mp H;obtain ⟨t501, A30, H⟩ := H;(try dsimp only at H);have A3 := M_ A30;clear A30
 by_cases c4 : t501 = true
 ·subst c4
  rw [if_pos rfl] at H
  replace H := Option.bind_eq_some_iff.mp H;obtain ⟨t502, A50, H⟩ := H;(try dsimp only at H);have A5 := M_ A50;clear A50
  by_cases c6 : t502 = true
  focus
   subst c6
   rw [if_pos rfl] at H
   replace H := Option.bind_eq_some_iff.mp H;obtain ⟨⟨t503, t504⟩, A70, H⟩ := H;replace H : (some (t503, t504)) = some (r1, r2) := H;have A7 := M_ A70;clear A70;simp only [Option.some.injEq, Prod.mk.injEq] at H;obtain ⟨rfl, rfl⟩ := H
  rotate_left
  focus
   replace c6 := Bool.eq_false_iff.mpr c6
   subst c6
   rw [if_neg (show ¬ (false = true) by decide)] at H
   simp only [Option.some.injEq, Prod.mk.injEq] at H;obtain ⟨rfl, rfl⟩ := H
  rotate_left
  all_goals
   go_enter Tryz.func40, Tryz.ntmps40
   go_wp2_with (first | ((with_reducible refine gc_ 49 ?_); refine gM_ (some 7) Tryz.func49 #[.slice A0 l0.length c0] ?_; (with_reducible refine (spec_ntGood.calls k _ _ l0 true _ ?side1 ?side2 A3.out).mono ?_); (case side1 => exact cU_ HR0.out); (case side2 => exact HC0.out); rintro e w8 ⟨rfl, hb⟩; refine ⟨_, rfl, ?_⟩; replace HB := M_ (bS_ HB hb); clear hb) | (go_at_call 52; (with_reducible refine (spec_l1In.calls a1 (-999) 999 _ _ A5.out).mono ?_); rintro e w' ⟨rfl, ⟨nd, rfl⟩⟩) | ((with_reducible refine gc_ 76 ?_); refine gM_ (some 16) Tryz.func76 #[.slice A0 l0.length c0, .int .i64 0, .int .i64 a1] ?_; (with_reducible refine (spec_ntChanged.calls k _ _ l0 0 a1 t503 t504 _ ?side1 ?side2 A7.out).mono ?_); (case side1 => exact cU_ (Kd.C_below HR0.out (bU_ HB))); (case side2 => exact HC0.out); rintro e w9 ⟨v505, rfl, ho0, hb⟩; refine ⟨_, rfl, ?_⟩; have HO506 := M_ (Kd.R_lower ho0 (bZ_ HB)); replace HB := M_ (bS_ HB hb); clear hb ho0))
   go_ret2
  ·exact ⟨_, eR_, rU_ HO506.out, bU_ HB⟩
  ·exact ⟨_, eR_, by first | exact Kd.R_nil _ _ _ _ _ | exact Kd.N_nil _ _ _ _ _ | exact Kd.V_nil _ _ _ _ _ | exact Kd.Q_nil _ _ _ _ _ | exact Kd.S_nil _ _ _ _ _, bU_ HB⟩
 ·replace c4 := Bool.eq_false_iff.mpr c4
  subst c4
  rw [if_neg (show ¬ (false = true) by decide)] at H
  simp only [Option.some.injEq, Prod.mk.injEq] at H;obtain ⟨rfl, rfl⟩ := H
  go_enter Tryz.func40, Tryz.ntmps40
  go_wp2_with (first | ((with_reducible refine gc_ 49 ?_); refine gM_ (some 7) Tryz.func49 #[.slice A0 l0.length c0] ?_; (with_reducible refine (spec_ntGood.calls k _ _ l0 false _ ?side1 ?side2 A3.out).mono ?_); (case side1 => exact cU_ HR0.out); (case side2 => exact HC0.out); rintro e w11 ⟨rfl, hb⟩; refine ⟨_, rfl, ?_⟩; replace HB := M_ (bS_ HB hb); clear hb))
  go_ret2
  exact ⟨_, eR_, by first | exact Kd.R_nil _ _ _ _ _ | exact Kd.N_nil _ _ _ _ _ | exact Kd.V_nil _ _ _ _ _ | exact Kd.Q_nil _ _ _ _ _ | exact Kd.S_nil _ _ _ _ _, bU_ HB⟩
end Go.Proofs.YtfpfjnmjekjnhaaGreatDoor.PFnScores
