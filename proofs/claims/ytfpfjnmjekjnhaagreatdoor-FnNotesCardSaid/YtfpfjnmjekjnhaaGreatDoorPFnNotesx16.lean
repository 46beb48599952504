-- by wip/xprint.py, over the kit's printer
import Derived.Test.YtfpfjnmjekjnhaaGreatDoorPFnNotesx0
import Derived.Test.YtfpfjnmjekjnhaaGreatDoorPFnNotesx2
import Derived.Test.YtfpfjnmjekjnhaaGreatDoorPFnNotesx3
import Derived.Test.YtfpfjnmjekjnhaaGreatDoorPFnNotesx12
import Derived.Test.YtfpfjnmjekjnhaaGreatDoorPFnNotesx15
namespace Go.Proofs.YtfpfjnmjekjnhaaGreatDoor.PFnNotes
open Go.RowKit Go.Proofs.YtfpfjnmjekjnhaaGreatDoorW.PrintWords Go.Proofs.YtfpfjnmjekjnhaaGreatDoorW.PrintLast Go.Proofs.YtfpfjnmjekjnhaaGreatDoorW.PrintMore
attribute [local go_sem] max2_int min2_int max_two min_two max_three min_three max_four min_four   -- for this text's walks alone
set_option linter.unusedVariables false
set_option linter.unusedSimpArgs false

mutual
def spec_l1Read.j0 : Nat → ByteArray → Bool → Option (Int)
 | 0, _, _ => none
 | k + 1, x0, x18 => if x18 = true then (some (-1)) else (spec_l1Read.l0 k x0 0 0)
def spec_l1Read.l0 : Nat → ByteArray → Int → Int → Option (Int)
 | 0, _, _, _ => none
 | k + 1, x0, x3, x4 => if x4 < (x0.size : Int) then (if 0 ≤ x4 then (if (bt x0 x4) < 48 then (some (-1)) else (if (bt x0 x4) > 57 then (some (-1)) else (spec_l1Read.l0 k x0 (wrap64 ((wrap64 (10 * x3)) + (((bt x0 x4) - 48) % 256))) (wrap64 (x4 + 1))))) else (none)) else (some x3)
end
def spec_l1Read.f (k : Nat) (a0 : ByteArray) : Option (Int) := (spec_l1In.f (a0.size : Int) 1 6).bind fun t587 => (if t587 = true then (if 0 < (a0.size : Int) then (if (bt a0 0) = 48 then (spec_l1Read.j0 k a0 (decide ((a0.size : Int) > 1))) else (spec_l1Read.j0 k a0 false)) else (none)) else (spec_l1Read.j0 k a0 true))
theorem spec_l1Read.mono_l : ∀ k, (∀ y0 y1, LeO (spec_l1Read.j0 k y0 y1) (spec_l1Read.j0 (k + 1) y0 y1)) ∧ (∀ y0 y1 y2, LeO (spec_l1Read.l0 k y0 y1 y2) (spec_l1Read.l0 (k + 1) y0 y1 y2))
 | 0 => ⟨fun _ _ r h => by simp [spec_l1Read.j0] at h, fun _ _ _ r h => by simp [spec_l1Read.l0] at h⟩
 | k + 1 => by
  obtain ⟨ih0, ih1⟩ := spec_l1Read.mono_l k;refine ⟨?_, ?_⟩
  ·intro y0 y1
   unfold spec_l1Read.j0
   exact mo_
  ·intro y0 y1 y2
   unfold spec_l1Read.l0
   exact mo_
theorem spec_l1Read.mono : ∀ a0 k, LeO (spec_l1Read.f k a0) (spec_l1Read.f (k + 1) a0) := by
 intro a0 k;obtain ⟨ih0, ih1⟩ := spec_l1Read.mono_l k
 unfold spec_l1Read.f
 exact mo_
set_option maxHeartbeats 8000000 in
set_option maxRecDepth 100000 in
theorem spec_l1Read.calls (k : Nat) (a0 : ByteArray) (r : Int) (w : World) (h : spec_l1Read.f k a0 = some r) :
  Calls Tryz.prog 94 #[.string a0] w fun e w' => e = .returned (.int .i64 r) ∧ Drawn0 w w' := by
 have H : ((spec_l1In.f (a0.size : Int) 1 6).bind fun t587 => (if t587 = true then (if 0 < (a0.size : Int) then (if (bt a0 0) = 48 then (spec_l1Read.j0 k a0 (decide ((a0.size : Int) > 1))) else (spec_l1Read.j0 k a0 false)) else (none)) else (spec_l1Read.j0 k a0 true))) = some r := h
 clear h;have HC2 := M_ H;clear H
 go_enter Tryz.func94, Tryz.ntmps94
 go_upto_region 1 with (fail)
 go_cut [18] (fun v18 wc => ∃ (kq : Nat) (x18_1 : Bool), v18 = .bool x18_1 ∧ Aside0 (spec_l1Read.j0 kq a0 x18_1 = some r) ∧ Aside0 (kq ≤ k) ∧ Drawn0 w wc)
 case first =>
  have H := HC2.out;clear HC2;replace H := Option.bind_eq_some_iff.mp H;obtain ⟨t587, A30, H⟩ := H;(try dsimp only at H);have A3 := M_ A30;clear A30
  by_cases c4 : t587 = true
  ·subst c4
   rw [if_pos rfl] at H
   by_cases c5 : 0 < (a0.size : Int)
   ·rw [if_pos c5] at H
    have c5b0 : decide (0 < (a0.size : Int)) = true := decide_eq_true c5
    have c5b1 : decide (0 < a0.size) = true := decide_eq_true (by omega)
    clear c5
    (first | rw [c5b0] | (simp only [i64_w, i32_w]; rw [c5b0]) | skip)
    by_cases c7 : (bt a0 0) = 48
    focus
     rw [if_pos c7] at H
     have c7b0 : ((bt a0 0) == 48) = true := beq_iff_eq.mpr c7
     have c7b1 : ((bt a0 0) != 48) = false := bne_eq_false_iff_eq.mpr c7
     clear c7
    rotate_left
    focus
     rw [if_neg c7] at H
     have c7b0 : ((bt a0 0) == 48) = false := beq_eq_false_iff_ne.mpr c7
     have c7b1 : ((bt a0 0) != 48) = true := bne_iff_ne.mpr c7
    rotate_left
    all_goals
     have H' := M_ H
     clear H
     go_wp2_with (first | ((with_reducible refine gc_ 52 ?_); refine gM_ (some 7) Tryz.func52 #[.int .i64 (a0.size : Int), .int .i64 1, .int .i64 6] ?_; (with_reducible refine (spec_l1In.calls (a0.size : Int) 1 6 true _ A3.out).mono ?_); rintro e w' ⟨rfl, ⟨nd, rfl⟩⟩; refine ⟨_, rfl, ?_⟩; have p6 : 0 ≤ (0 : Int) := (by omega); have q6 : 0 < a0.size := (by have : (0 : Int) < (a0.size : Int) := dT_; omega); have hx6 : ∀ h : 0 < a0.size, ((a0[0]'h).toNat : Int) = bt a0 0 := bt_at a0 0; clear p6; have qi6 : (0 < (a0.size : Int)) = True := eq_true (dT_); replace q6 := eq_true q6))
     go_meet
    ·case rel => exact ⟨_, (decide ((a0.size : Int) > 1)), eD_, H', ⟨by first | omega | exact Nat.le_refl _⟩, by repeat (first | exact Drawn0.refl _ | apply Drawn0.step)⟩
    ·case rel => exact ⟨_, (false), eD_, H', ⟨by first | omega | exact Nat.le_refl _⟩, by repeat (first | exact Drawn0.refl _ | apply Drawn0.step)⟩
   ·rw [if_neg c5] at H
    exact absurd H (by simp)
  ·replace c4 := Bool.eq_false_iff.mpr c4
   subst c4
   rw [if_neg (show ¬ (false = true) by decide)] at H
   have H' := M_ H
   clear H
   go_wp2_with (first | ((with_reducible refine gc_ 52 ?_); refine gM_ (some 7) Tryz.func52 #[.int .i64 (a0.size : Int), .int .i64 1, .int .i64 6] ?_; (with_reducible refine (spec_l1In.calls (a0.size : Int) 1 6 false _ A3.out).mono ?_); rintro e w' ⟨rfl, ⟨nd, rfl⟩⟩; refine ⟨_, rfl, ?_⟩))
   go_meet
   case rel => exact ⟨_, (true), eD_, H', ⟨by first | omega | exact Nat.le_refl _⟩, by repeat (first | exact Drawn0.refl _ | apply Drawn0.step)⟩
 case rest =>
  clear HC2;(try clear qi6);obtain ⟨kq, x18_1, rfl, HA, HJ1, ⟨mc1, rfl⟩⟩ := hcut
  cases kq with
  | zero => exact absurd HA.out (by simp [spec_l1Read.j0])
  | succ kj1 =>
   have H := HA.out;clear HA;simp only [spec_l1Read.j0] at H
   by_cases c8 : x18_1 = true
   ·subst c8
    have H1 : (some (-1)) = some r := by rw [if_pos rfl] at H; exact H
    clear H;have H := H1;clear H1;obtain rfl := Option.some.inj H
    go_wp2
    go_ret
    exact ⟨by first | rfl | (simp; done) | (simp [*]; done), by repeat (first | exact Drawn0.refl _ | apply Drawn0.step)⟩
   ·replace c8 := Bool.eq_false_iff.mpr c8
    subst c8
    rw [if_neg (show ¬ (false = true) by decide)] at H
    have H' := M_ H
    clear H
    go_wp2
    go_loopg [3, 4] kj1 (fun kq v3 v4 w' => ∃ (x3_2 : Int) (x4_2 : Int), v3 = .int .i64 x3_2 ∧ v4 = .int .i64 x4_2 ∧ Aside0 (spec_l1Read.l0 kq a0 x3_2 x4_2 = some r) ∧ Aside0 (kq ≤ kj1) ∧ Drawn0 w w')
    case atStart => exact ⟨(0), (0), eD_, eD_, H', ⟨Nat.le_refl _⟩, by repeat (first | exact Drawn0.refl _ | apply Drawn0.step)⟩
    case round =>
     clear H';(try clear qi6);obtain ⟨x3_2, x4_2, rfl, rfl, HA, HK2, ⟨m2, rfl⟩⟩ := hrel
     cases gk with
     | zero => exact absurd HA.out (by simp [spec_l1Read.l0])
     | succ k2 =>
      have H := HA.out;clear HA;simp only [spec_l1Read.l0] at H
      by_cases c9 : x4_2 < (a0.size : Int)
      ·rw [if_pos c9] at H
       have c9b0 : decide (x4_2 < (a0.size : Int)) = true := decide_eq_true c9
       clear c9
       by_cases c10 : 0 ≤ x4_2
       ·rw [if_pos c10] at H
        have c10b0 : decide (0 ≤ x4_2) = true := decide_eq_true c10
        clear c10
        by_cases c12 : (bt a0 x4_2) < 48
        ·rw [if_pos c12] at H
         have c12b0 : decide ((bt a0 x4_2) < 48) = true := decide_eq_true c12
         clear c12;obtain rfl := Option.some.inj H
         have p11 : 0 ≤ (x4_2 : Int) := dT_
         have q11 : x4_2 < (a0.size : Int) := dT_
         have hx11 := bt_at a0 x4_2;replace p11 := eq_true p11;replace q11 := eq_true q11
         go_wp2
         go_ret
         exact ⟨by first | rfl | (simp; done) | (simp [*]; done), by repeat (first | exact Drawn0.refl _ | apply Drawn0.step)⟩
        ·rw [if_neg c12] at H
         have c12b0 : decide ((bt a0 x4_2) < 48) = false := decide_eq_false c12
         clear c12
         by_cases c14 : (bt a0 x4_2) > 57
         focus
          rw [if_pos c14] at H
          have c14b0 : decide (57 < (bt a0 x4_2)) = true := decide_eq_true c14
          clear c14;obtain rfl := Option.some.inj H
         rotate_left
         focus
          rw [if_neg c14] at H
          have c14b0 : decide (57 < (bt a0 x4_2)) = false := decide_eq_false c14
          clear c14
          have H' := M_ H
          clear H
          have p11 : 0 ≤ (x4_2 : Int) := dT_
          have q11 : x4_2 < (a0.size : Int) := dT_
          have hx11 := bt_at a0 x4_2;replace p11 := eq_true p11;replace q11 := eq_true q11
         rotate_left
         all_goals
          have p11 : 0 ≤ (x4_2 : Int) := dT_
          have q11 : x4_2 < (a0.size : Int) := dT_
          have hx11 := bt_at a0 x4_2;replace p11 := eq_true p11;replace q11 := eq_true q11
          have p13 : 0 ≤ (x4_2 : Int) := dT_
          have q13 : x4_2 < (a0.size : Int) := dT_
          have hx13 := bt_at a0 x4_2;replace p13 := eq_true p13;replace q13 := eq_true q13
          go_wp2
         ·go_ret
          exact ⟨by first | rfl | (simp; done) | (simp [*]; done), by repeat (first | exact Drawn0.refl _ | apply Drawn0.step)⟩
         ·go_roundg k2
          case measure => have := HJ1.out; have := HK2.out; omega
          case rel => exact ⟨(wrap64 ((wrap64 (10 * x3_2)) + (((bt a0 x4_2) - 48) % 256))), (wrap64 (x4_2 + 1)), eD_, eD_, H', ⟨by have := HJ1.out; have := HK2.out; omega⟩, by repeat (first | exact Drawn0.refl _ | apply Drawn0.step)⟩
       ·rw [if_neg c10] at H
        exact absurd H (by simp)
      ·rw [if_neg c9] at H
       have c9b0 : decide (x4_2 < (a0.size : Int)) = false := decide_eq_false c9
       clear c9;obtain rfl := Option.some.inj H
       go_wp2
       go_ret
       exact ⟨by first | rfl | (simp; done) | (simp [*]; done), by repeat (first | exact Drawn0.refl _ | apply Drawn0.step)⟩
def spec_ntParse.l0 : Nat → ByteArray → List (S31) → List ByteArray → Int → Int → Option ((List (S31)) × Bool)
 | 0, _, _, _, _, _ => none
 | k + 1, x0, x5, x18, x19, x20 => if x20 < x19 then (if 0 ≤ x20 then (if x20 < (x18.length : Int) then ((spec_l1Split.f k (rdOf ByteArray.empty x18 x20) 32).bind fun t596 => (if (t596.length : Int) = 3 then (if 0 < (t596.length : Int) then ((spec_ntRead.f k (rdOf ByteArray.empty t596 0)).bind fun t600 => (if 1 < (t596.length : Int) then ((spec_l1Read.f k (rdOf ByteArray.empty t596 1)).bind fun t602 => (if 2 < (t596.length : Int) then ((spec_l1Read.f k (rdOf ByteArray.empty t596 2)).bind fun t604 => (if x5.length < 5864062014805 then (spec_ntParse.l0 k x0 (x5 ++ [(⟨t600, t602, t604⟩ : S31)]) x18 x19 (wrap64 (x20 + 1))) else (none))) else (none))) else (none))) else (none)) else (some (([] : List (S31)), false)))) else (none)) else (none)) else ((spec_ntGood.f k x5).bind fun t608 => (if t608 = true then ((spec_ntText.f k x5).bind fun t609 => (if t609.toList = x0.toList then (some (x5, true)) else (some (([] : List (S31)), false)))) else (some (([] : List (S31)), false))))
def spec_ntParse.f (k : Nat) (a0 : ByteArray) : Option ((List (S31)) × Bool) := (spec_l1Split.f k a0 10).bind fun t588 => (if (t588.length : Int) > 31 then (some (([] : List (S31)), false)) else (if 0 ≤ (wrap64 ((t588.length : Int) - 1)) then (if (wrap64 ((t588.length : Int) - 1)) ≤ (t588.length : Int) then ((some (t588.take ((wrap64 ((t588.length : Int) - 1)) : Int).toNat : List ByteArray)).bind fun y591 => (spec_ntParse.l0 k a0 ([] : List (S31)) y591 (y591.length : Int) 0)) else (none)) else (none)))
theorem spec_ntParse.mono_l : ∀ k, (∀ y0 y1 y2 y3 y4, LeO (spec_ntParse.l0 k y0 y1 y2 y3 y4) (spec_ntParse.l0 (k + 1) y0 y1 y2 y3 y4))
 | 0 => fun _ _ _ _ _ r h => by simp [spec_ntParse.l0] at h
 | k + 1 => by
  have ih0 := spec_ntParse.mono_l k
  ·intro y0 y1 y2 y3 y4
   unfold spec_ntParse.l0
   have m0_ := @spec_l1Read.mono;have m1_ := @spec_l1Split.mono;have m2_ := @spec_ntGood.mono;have m3_ := @spec_ntRead.mono;have m4_ := @spec_ntText.mono;exact mo_
theorem spec_ntParse.mono : ∀ a0 k, LeO (spec_ntParse.f k a0) (spec_ntParse.f (k + 1) a0) := by
 intro a0 k;have ih0 := spec_ntParse.mono_l k
 unfold spec_ntParse.f
 have m0_ := @spec_l1Read.mono;have m1_ := @spec_l1Split.mono;have m2_ := @spec_ntGood.mono;have m3_ := @spec_ntRead.mono;have m4_ := @spec_ntText.mono;exact mo_
def spec_ntParse.T11 : Bool × List (List Nat × List Nat) := (true, [([], []), ([], []), ([1], [1]), ([2], [2]), ([3], [3]), ([], []), ([5], [5]), ([6], [6]), ([7, 4], [7]), ([], []), ([9], [9]), ([10], [10]), ([11, 8], [11]), ([4, 8, 12], [4, 8, 12]), ([13], [13]), ([0, 14, 12], [0, 14]), ([15, 15, 0, 1, 2, 3, 4, 5, 6, 7, 8, 9, 10, 11, 12, 13, 14, 15], [0, 15])])
def spec_ntParse.B11 : List Nat := [0, 0, 2, 6, 14, 0, 32, 96, 254, 0, 512, 1536, 4094, 8190, 16382, 32767, 65535]
theorem spec_ntParse.tab11 : rtab .any (opsOf Tryz.f66 11) = spec_ntParse.T11 := by kernel_rfl
theorem spec_ntParse.bits11 : waitsOk spec_ntParse.T11.2 spec_ntParse.B11 = true := by kernel_rfl
set_option maxHeartbeats 8000000 in
set_option maxRecDepth 100000 in
theorem spec_ntParse.calls (k : Nat) (a0 : ByteArray) (r1 : List (S31)) (r2 : Bool) (w : World) (h : spec_ntParse.f k a0 = some (r1, r2)) :
  Calls Tryz.prog 66 #[.string a0] w fun e w' => ∃ v0_ : Value, e = .returned (.tuple #[v0_, .bool r2]) ∧ Kd.R k31 31 w' w.heap.size (fun _ => True) v0_ r1 ∧ Below w.heap.size w w' := by
 have hu31 := Tryz.underlying31;have HB := M_ (Below.refl w.heap.size w)
 have H : ((spec_l1Split.f k a0 10).bind fun t588 => (if (t588.length : Int) > 31 then (some (([] : List (S31)), false)) else (if 0 ≤ (wrap64 ((t588.length : Int) - 1)) then (if (wrap64 ((t588.length : Int) - 1)) ≤ (t588.length : Int) then ((some (t588.take ((wrap64 ((t588.length : Int) - 1)) : Int).toNat : List ByteArray)).bind fun y591 => (spec_ntParse.l0 k a0 ([] : List (S31)) y591 (y591.length : Int) 0)) else (none)) else (none)))) = some (r1, r2) := h
 clear h;replace H := Option.bind_eq_some_iff.mp H;obtain ⟨t588, A20, H⟩ := H;(try dsimp only at H);have A2 := M_ A20;clear A20
 by_cases c3 : (t588.length : Int) > 31
 ·rw [if_pos c3] at H
  have c3b0 : decide (31 < (t588.length : Int)) = true := decide_eq_true c3
  have c3b1 : decide (31 < t588.length) = true := decide_eq_true (by omega)
  clear c3;simp only [Option.some.injEq, Prod.mk.injEq] at H;obtain ⟨rfl, rfl⟩ := H
  go_enter Tryz.func66, Tryz.ntmps66
  go_wp2_with (first | ((with_reducible refine gc_ 92 ?_); refine gM_ (some 10) Tryz.func92 #[.string a0, .int .u8 10] ?_; (with_reducible refine (spec_l1Split.calls k a0 10 t588 _ A2.out).mono ?_); rintro e w4 ⟨v589, rfl, ho0, hb⟩; refine ⟨_, rfl, ?_⟩; have HO590 := M_ (Kd.R_lower ho0 (bZ_ HB)); replace HB := M_ (bS_ HB hb); clear hb ho0; obtain ⟨Ao5, co5, eo5⟩ := Kd.R_slice HO590.out; subst eo5))
  go_ret2
  exact ⟨_, eR_, by first | exact Kd.R_nil _ _ _ _ _ | exact Kd.N_nil _ _ _ _ _ | exact Kd.V_nil _ _ _ _ _ | exact Kd.Q_nil _ _ _ _ _ | exact Kd.S_nil _ _ _ _ _, bU_ HB⟩
 ·rw [if_neg c3] at H
  have c3b0 : decide (31 < (t588.length : Int)) = false := decide_eq_false c3
  have c3b1 : decide (31 < t588.length) = false := decide_eq_false (by omega)
  clear c3;obtain ⟨ji6, hji6⟩ : ∃ j_ : Int, (wrap64 ((t588.length : Int) - 1)) = j_ := ⟨_, rfl⟩
  replace H : (if 0 ≤ (ji6) then (if (ji6) ≤ (t588.length : Int) then ((some (t588.take ((ji6) : Int).toNat : List ByteArray)).bind fun y591 => (spec_ntParse.l0 k a0 ([] : List (S31)) y591 (y591.length : Int) 0)) else (none)) else (none)) = some (r1, r2) := by first | (rw [hji6] at H; exact H) | (simp only [hji6] at H ⊢; exact H)
  (try rw [hji6] at A2)
  have hji6w : (IntKind.i64.wrap ((t588.length : Int) - 1)) = ji6 := (i64_w _).trans hji6
  by_cases c7 : 0 ≤ (ji6)
  ·rw [if_pos c7] at H
   have c7b0 := eq_true c7
   have c7b1 : decide (0 ≤ (ji6)) = true := decide_eq_true c7
   clear c7
   by_cases c8 : (ji6) ≤ (t588.length : Int)
   ·rw [if_pos c8] at H
    have c8b0 := eq_true c8
    have c8b1 : decide ((ji6) ≤ (t588.length : Int)) = true := decide_eq_true c8
    clear c8;obtain ⟨y591, hy591, H⟩ := ob_ H;(try dsimp only at H);have Ny591 := M_ hy591;clear hy591
    have H' := M_ H
    clear H
    go_enter Tryz.func66, Tryz.ntmps66
    go_wp2_with (first | ((with_reducible refine gc_ 92 ?_); refine gM_ (some 10) Tryz.func92 #[.string a0, .int .u8 10] ?_; (with_reducible refine (spec_l1Split.calls k a0 10 t588 _ A2.out).mono ?_); rintro e w9 ⟨v589, rfl, ho0, hb⟩; refine ⟨_, rfl, ?_⟩; have HO590 := M_ (Kd.R_lower ho0 (bZ_ HB)); replace HB := M_ (bS_ HB hb); clear hb ho0; obtain ⟨Ao10, co10, eo10⟩ := Kd.R_slice HO590.out; subst eo10; have q11 : ((ji6) : Int) ≤ ((t588.length : Int) : Int) := dT_; obtain ⟨i011, hi011, _, hsz11, _⟩ := info_parts info9; have hroom11 : t588.length ≤ co10 := (Kd.R_reads' HO590.out).2.1; have hC11 : Kd.C Kd.string _ Ao10 t588.length t588 := (Kd.R_reads' HO590.out).2.2; have hcut11 := cut_to (P := Tryz.prog) 72 9 .i64 Tryz.underlying72 hi011 Ao10 t588.length co10 (ji6) (dT_) q11 hroom11; have hr11 := Kd.C_take (m := ((ji6) : Int).toNat) hC11 (by omega); have hy11 : y591.length = ((ji6) : Int).toNat := (by rw [Ny591.out, List.length_take]; omega); rw [← Ny591.out] at hr11; rw [← hy11] at hcut11; have HR594 := M_ hr11; have HC594 := M_ (show y591.length ≤ co10 from by omega); clear hr11 hC11 hroom11 hi011 hsz11; have KY11 := M_ hy11; clear hy11; have KL11 := M_ (show ((ji6) : Int).toNat ≤ t588.length from by omega); replace q11 := eq_true q11))
    have HBW := M_ (show Below w.heap.size w w9 from HB.out);clear HB;have HB := M_ (Below.refl w9.heap.size w9)
    go_loopg [5, 20] k (fun kq v5 v20 w' => ∃ (x5_1 : List (S31)) (x20_1 : Int), v20 = .int .i64 x20_1 ∧ Aside0 (spec_ntParse.l0 kq a0 x5_1 y591 (y591.length : Int) x20_1 = some (r1, r2)) ∧ Aside0 (kq ≤ k) ∧ Aside0 (Kd.R k31 31 w' w9.heap.size (fun _ => True) v5 x5_1) ∧ Aside0 (Below w9.heap.size w9 w'))
    case atStart => exact ⟨(([] : List (S31))), (0), eD_, H', ⟨Nat.le_refl _⟩, ⟨by first | exact Kd.R_nil _ _ _ _ _ | exact Kd.N_nil _ _ _ _ _ | exact Kd.V_nil _ _ _ _ _ | exact Kd.Q_nil _ _ _ _ _ | exact Kd.S_nil _ _ _ _ _⟩, ⟨bU_ HB⟩⟩
    case round =>
     clear H';obtain ⟨x5_1, x20_1, rfl, HA, HK1, HO_5, HB⟩ := hrel
     cases gk with
     | zero => exact absurd HA.out (by simp [spec_ntParse.l0])
     | succ k1 =>
      have H := HA.out;clear HA;simp only [spec_ntParse.l0] at H
      by_cases c12 : x20_1 < (y591.length : Int)
      ·rw [if_pos c12] at H
       have c12b0 : decide (x20_1 < (y591.length : Int)) = true := decide_eq_true c12
       clear c12
       by_cases c13 : 0 ≤ x20_1
       ·rw [if_pos c13] at H
        have c13b0 : decide (0 ≤ x20_1) = true := decide_eq_true c13
        clear c13
        by_cases c14 : x20_1 < (y591.length : Int)
        ·rw [if_pos c14] at H
         have c14b0 : decide (x20_1 < (y591.length : Int)) = true := decide_eq_true c14
         clear c14;replace H := Option.bind_eq_some_iff.mp H;obtain ⟨t596, A150, H⟩ := H;(try dsimp only at H);have A15 := M_ A150;clear A150
         by_cases c16 : (t596.length : Int) = 3
         ·rw [if_pos c16] at H
          have c16b0 : ((t596.length : Int) == 3) = true := beq_iff_eq.mpr c16
          have c16b1 : ((t596.length : Int) != 3) = false := bne_eq_false_iff_eq.mpr c16
          clear c16
          by_cases c17 : 0 < (t596.length : Int)
          ·rw [if_pos c17] at H
           have c17b0 : decide (0 < (t596.length : Int)) = true := decide_eq_true c17
           have c17b1 : decide (0 < t596.length) = true := decide_eq_true (by omega)
           clear c17;replace H := Option.bind_eq_some_iff.mp H;obtain ⟨t600, A180, H⟩ := H;(try dsimp only at H);have A18 := M_ A180;clear A180
           by_cases c19 : 1 < (t596.length : Int)
           ·rw [if_pos c19] at H
            have c19b0 : decide (1 < (t596.length : Int)) = true := decide_eq_true c19
            have c19b1 : decide (1 < t596.length) = true := decide_eq_true (by omega)
            clear c19;replace H := Option.bind_eq_some_iff.mp H;obtain ⟨t602, A200, H⟩ := H;(try dsimp only at H);have A20 := M_ A200;clear A200
            by_cases c21 : 2 < (t596.length : Int)
            ·rw [if_pos c21] at H
             have c21b0 : decide (2 < (t596.length : Int)) = true := decide_eq_true c21
             have c21b1 : decide (2 < t596.length) = true := decide_eq_true (by omega)
             clear c21;replace H := Option.bind_eq_some_iff.mp H;obtain ⟨t604, A220, H⟩ := H;(try dsimp only at H);have A22 := M_ A220;clear A220
             by_cases c23 : x5_1.length < 5864062014805
             ·rw [if_pos c23] at H
              have LMc23 := M_ c23;clear c23;obtain ⟨y605, hy605⟩ : ∃ y_ : List (S31), y_ = (x5_1 ++ [(⟨t600, t602, t604⟩ : S31)]) := ⟨_, rfl⟩
              replace H : (spec_ntParse.l0 k1 a0 y605 y591 (y591.length : Int) (wrap64 (x20_1 + 1))) = some (r1, r2) := by first | (rw [hy605]; with_reducible exact H) | (have H2_ := (Option.bind_some _ _).symm.trans H; rw [hy605]; with_reducible exact H2_) | (have H2_ := (Option.bind_some _ _).symm.trans H; with_reducible exact H2_) | with_reducible exact H | (rw [hy605]; exact H) | exact H
              have Ny605 := M_ hy605;clear hy605
              have H' := M_ H
              clear H
              have p595 : 0 ≤ (x20_1 : Int) := dT_
              have q595 : x20_1 < (y591.length : Int) := dT_
              obtain ⟨ad595, e595, hx595_0⟩ := Kd.at_string HR594.out x20_1 p595 q595;cases e595;replace hx595_0 := (HB.out.cell (World.block_lt_of_cell? w9 _ hx595_0)).trans hx595_0;replace p595 := eq_true p595;replace q595 := eq_true q595
              try go_wp2_with (first | ((with_reducible refine gc_ 92 ?_); refine gM_ (some 25) Tryz.func92 #[.string (rdOf ByteArray.empty y591 x20_1), .int .u8 32] ?_; (with_reducible refine (spec_l1Split.calls k1 (rdOf ByteArray.empty y591 x20_1) 32 t596 _ A15.out).mono ?_); rintro e w24 ⟨v597, rfl, ho0, hb⟩; refine ⟨_, rfl, ?_⟩; replace HO_5 := M_ (rB_ HO_5 hb); have HO598 := M_ (Kd.R_lower ho0 (bZ_ HB)); replace HB := M_ (bS_ HB hb); clear hb ho0; obtain ⟨Ao25, co25, eo25⟩ := Kd.R_slice HO598.out; subst eo25))
              replace HO_5 := M_ (rd_ HO_5.out); replace HO598 := M_ (rd_ HO598.out); replace HB := M_ (b1_ HB.out)
              have p599 : 0 ≤ (0 : Int) := (by omega)
              have q599 : 0 < (t596.length : Int) := dT_
              obtain ⟨ad599, e599, hx599_0⟩ := Kd.at_string (Kd.R_reads' HO598.out).2.2 0 p599 q599;cases e599
              have qi599 : (0 < t596.length) = True := eq_true (by omega)
              (try rw [show ((0 : Int)).toNat = 0 from rfl] at hx599_0)
              (try rw [Addr.add_zero'] at hx599_0)
              replace p599 := eq_true p599;replace q599 := eq_true q599
              have p601 : 0 ≤ (1 : Int) := (by omega)
              have q601 : 1 < (t596.length : Int) := dT_
              obtain ⟨ad601, e601, hx601_0⟩ := Kd.at_string (Kd.R_reads' HO598.out).2.2 1 p601 q601;obtain rfl : ad599 = ad601 := (by injection e601)
              (try simp only [show (1 : Int).toNat = 1 from rfl, Nat.reduceMul, Nat.reduceEqDiff, Go.Addr.add, ↓reduceIte] at hx601_0)
              have qi601 : (1 < t596.length) = True := eq_true (by omega)
              (try rw [show ((1 : Int)).toNat = 1 from rfl] at hx601_0)
              replace p601 := eq_true p601;replace q601 := eq_true q601
              have p603 : 0 ≤ (2 : Int) := (by omega)
              have q603 : 2 < (t596.length : Int) := dT_
              obtain ⟨ad603, e603, hx603_0⟩ := Kd.at_string (Kd.R_reads' HO598.out).2.2 2 p603 q603;obtain rfl : ad599 = ad603 := (by injection e603)
              (try simp only [show (2 : Int).toNat = 2 from rfl, Nat.reduceMul, Nat.reduceEqDiff, Go.Addr.add, ↓reduceIte] at hx603_0)
              have qi603 : (2 < t596.length) = True := eq_true (by omega)
              (try rw [show ((2 : Int)).toNat = 2 from rfl] at hx603_0)
              replace p603 := eq_true p603;replace q603 := eq_true q603;refine start_ (n := 17) (S := fun w' => w'.cell? ad599 = some (.string (rdOf ByteArray.empty t596 0)) ∧ w'.cell? ⟨ad599.block, ad599.off + 1, none⟩ = some (.string (rdOf ByteArray.empty t596 1)) ∧ w'.cell? ⟨ad599.block, ad599.off + 2, none⟩ = some (.string (rdOf ByteArray.empty t596 2))) (ds := [14, 15]) #[F,F,F,F,F,F,F,F,F,F,F,F,F,F,F,F,F] (by kernel_rfl) rfl rfl ⟨hx599_0, hx601_0, hx603_0⟩ (fun hHeld => ?_); refine with_tabW spec_ntParse.tab11 spec_ntParse.bits11 (fun HT_ HW_ => ?_);generalize w24.drew = w26 at HO_5 HO598 HB hx599_0 hx601_0 hx603_0 hHeld ⊢;refine pR_ (i := 0) (N := some 29) #[T,F,F,F,F,F,F,F,F,F,F,F,F,F,F,F,F] ?_;refine pR_ (i := 1) (N := some 30) #[T,T,F,F,F,F,F,F,F,F,F,F,F,F,F,F,F] ?_;refine pR_ (i := 2) (N := some 31) #[T,T,T,F,F,F,F,F,F,F,F,F,F,F,F,F,F] ?_;refine pR_ (i := 5) (N := some 34) #[T,T,T,F,F,T,F,F,F,F,F,F,F,F,F,F,F] ?_;refine pR_ (i := 6) (N := some 35) #[T,T,T,F,F,T,T,F,F,F,F,F,F,F,F,F,F] ?_;refine pR_ (i := 9) (N := some 38) #[T,T,T,F,F,T,T,F,F,T,F,F,F,F,F,F,F] ?_;refine pR_ (i := 10) (N := some 39) #[T,T,T,F,F,T,T,F,F,T,T,F,F,F,F,F,F] ?_;refine take_ (i := 3) (N := some 32) (v := ?_) (a' := ?_) #[T,T,T,T,F,T,T,F,F,T,T,F,F,F,F,F,F] rfl rfl (take_ofW HT_.out HW_.out (by kernel_rfl)) (fun _ _ _ h => h) (Or.inl ⟨by rfl, ?_⟩) hHeld ?_ ?_;rotate_left
              ·rintro w' ⟨s0, s1, s2⟩
               go_simp;with_reducible rfl
              rotate_left
              ·simp only [Act.put, la_, lb_, lc_, i64_w, i32_w]
               rfl
              refine take_ (i := 7) (N := some 36) (v := ?_) (a' := ?_) #[T,T,T,T,F,T,T,T,F,T,T,F,F,F,F,F,F] rfl rfl (take_ofW HT_.out HW_.out (by kernel_rfl)) (fun _ _ _ h => h) (Or.inl ⟨by rfl, ?_⟩) hHeld ?_ ?_;rotate_left
              ·rintro w' ⟨s0, s1, s2⟩
               go_simp;with_reducible rfl
              rotate_left
              ·simp only [Act.put, la_, lb_, lc_, i64_w, i32_w]
               rfl
              refine take_ (i := 11) (N := some 40) (v := ?_) (a' := ?_) #[T,T,T,T,F,T,T,T,F,T,T,T,F,F,F,F,F] rfl rfl (take_ofW HT_.out HW_.out (by kernel_rfl)) (fun _ _ _ h => h) (Or.inl ⟨by rfl, ?_⟩) hHeld ?_ ?_;rotate_left
              ·rintro w' ⟨s0, s1, s2⟩
               go_simp;with_reducible rfl
              rotate_left
              ·simp only [Act.put, la_, lb_, lc_, i64_w, i32_w]
               rfl
              refine one_ (i := 4) (N := some 33) #[T,T,T,T,T,T,T,T,F,T,T,T,F,F,F,F,F] rfl rfl (one_of HT_.out (by kernel_rfl)) (by decide) (fun K hK => ?_);refine gS_ Tryz.func93 #[.string (rdOf ByteArray.empty t596 0)] ?_
              with_reducible refine (spec_ntRead.calls k1 (rdOf ByteArray.empty t596 0) t600 _ A18.out).mono ?_
              rintro e w27 ⟨rfl, hb⟩;have HS0_ := (hb.cell (World.block_lt_of_cell? _ _ (hHeld.1))).trans (hHeld.1);have HS1_ := (hb.cell (World.block_lt_of_cell? _ _ (hHeld.2.1))).trans (hHeld.2.1);have HS2_ := (hb.cell (World.block_lt_of_cell? _ _ (hHeld.2.2))).trans (hHeld.2.2);refine ⟨_, rfl, ?_⟩;replace HO_5 := M_ (rB_ HO_5 hb); replace HO598 := M_ (rB_ HO598 hb); replace HB := M_ (bS_ HB hb);clear hb;refine hK.out _ _ ⟨HS0_, HS1_, HS2_⟩ (fun hHeld => ?_);clear hK K;refine nM_ (some 33) ?_;refine one_ (i := 8) (N := some 37) #[T,T,T,T,T,T,T,T,T,T,T,T,F,F,F,F,F] rfl rfl (one_of HT_.out (by kernel_rfl)) (by decide) (fun K hK => ?_);refine gS_ Tryz.func94 #[.string (rdOf ByteArray.empty t596 1)] ?_
              with_reducible refine (spec_l1Read.calls k1 (rdOf ByteArray.empty t596 1) t602 _ A20.out).mono ?_
              rintro e w' ⟨rfl, ⟨nd, rfl⟩⟩;refine ⟨_, rfl, ?_⟩;refine hK.out _ _ ⟨hHeld.1, hHeld.2.1, hHeld.2.2⟩ (fun hHeld => ?_);clear hK K;refine nM_ (some 37) ?_;refine one_ (i := 12) (N := some 41) #[T,T,T,T,T,T,T,T,T,T,T,T,T,F,F,F,F] rfl rfl (one_of HT_.out (by kernel_rfl)) (by decide) (fun K hK => ?_);refine gS_ Tryz.func94 #[.string (rdOf ByteArray.empty t596 2)] ?_
              with_reducible refine (spec_l1Read.calls k1 (rdOf ByteArray.empty t596 2) t604 _ A22.out).mono ?_
              rintro e w' ⟨rfl, ⟨nd, rfl⟩⟩;refine ⟨_, rfl, ?_⟩;refine hK.out _ _ ⟨hHeld.1, hHeld.2.1, hHeld.2.2⟩ (fun hHeld => ?_);clear hK K;refine nM_ (some 41) ?_;refine pR_ (i := 13) (N := some 42) #[T,T,T,T,T,T,T,T,T,T,T,T,T,T,F,F,F] ?_;refine last_ (i := 14) (N := some 43) #[T,T,T,T,T,T,T,T,T,T,T,T,T,T,T,F,F] rfl rfl (one_of HT_.out (by kernel_rfl)) (by decide) (fun K hK => ?_);refine value_ (w1 := ?_) (v := ?_) (by rfl) rfl ?_ ?_
              rotate_left 2
              ·go_simp
               constructor
               ·rfl
               ·rfl
              refine hK.out _ _ ?_;clear hK K;refine nM_ (some 43) ?_;refine last_ (i := 15) (N := some 44) #[T,T,T,T,T,T,T,T,T,T,T,T,T,T,T,T,F] rfl rfl (one_of HT_.out (by kernel_rfl)) (by decide) (fun K hK => ?_);refine Kd.R_append_step k31 (w0 := w9) w9.heap.size (by rfl) (.tmp 29) (.tmp 43) 24 31 (.agg #[(.int .i64 0), (.int .i64 0), (.int .i64 0)]) 24 rfl Tryz.underlying24 info31 rfl (by decide) (by omega) u5 x5_1 (⟨t600, t602, t604⟩ : S31) [.int .i64 t600, .int .i64 t602, .int .i64 t604] (fun _ => True) (fun _ => False) rfl rfl ?aP (fun _ hk => hk.elim) ?aF ?aO ?aB ?aS ?aL ?_
              (case aP => exact k31_mkM _ _ _ (⟨t600, t602, t604⟩ : S31))
              (case aB => exact (bU_ HB))
              (case aF => exact (fun _ _ => trivial))
              (case aO => exact (rU_ HO_5.out))
              (case aS => exact (bZ_ HB))
              (case aL => have := LMc23.out; omega)
              intro v606 w28 ho hb hg hat
              rw [← Ny605.out] at ho
              replace HO598 := M_ (Kd.R_over' (rU_ HO598.out) (Kd.R_typed (rU_ HO_5.out)) (by decide) hg); replace HB := M_ (hb); have HO607 := M_ (ho); clear HO_5;clear ho hb hg hat;refine hK.out _ _ ?_;clear hK K;refine nM_ (some 44) ?_;refine pR_ (i := 16) (N := some 5) #[T,T,T,T,T,T,T,T,T,T,T,T,T,T,T,T,T] ?_;refine done_ (done_of HT_.out (by kernel_rfl)) ?_
              try go_wp2
              go_roundg k1
              case measure => have := HK1.out; omega
              case rel => exact ⟨(y605), (wrap64 (x20_1 + 1)), eD_, H', ⟨by have := HK1.out; omega⟩, ⟨rU_ HO607.out⟩, ⟨bU_ HB⟩⟩
             ·rw [if_neg c23] at H
              exact absurd H (by simp)
            ·rw [if_neg c21] at H
             exact absurd H (by simp)
           ·rw [if_neg c19] at H
            exact absurd H (by simp)
          ·rw [if_neg c17] at H
           exact absurd H (by simp)
         ·rw [if_neg c16] at H
          have c16b0 : ((t596.length : Int) == 3) = false := beq_eq_false_iff_ne.mpr c16
          have c16b1 : ((t596.length : Int) != 3) = true := bne_iff_ne.mpr c16
          simp only [Option.some.injEq, Prod.mk.injEq] at H;obtain ⟨rfl, rfl⟩ := H
          have p595 : 0 ≤ (x20_1 : Int) := dT_
          have q595 : x20_1 < (y591.length : Int) := dT_
          obtain ⟨ad595, e595, hx595_0⟩ := Kd.at_string HR594.out x20_1 p595 q595;cases e595;replace hx595_0 := (HB.out.cell (World.block_lt_of_cell? w9 _ hx595_0)).trans hx595_0;replace p595 := eq_true p595;replace q595 := eq_true q595
          go_wp2_with (first | ((with_reducible refine gc_ 92 ?_); refine gM_ (some 25) Tryz.func92 #[.string (rdOf ByteArray.empty y591 x20_1), .int .u8 32] ?_; (with_reducible refine (spec_l1Split.calls k1 (rdOf ByteArray.empty y591 x20_1) 32 t596 _ A15.out).mono ?_); rintro e w29 ⟨v597, rfl, ho0, hb⟩; refine ⟨_, rfl, ?_⟩; replace HO_5 := M_ (rB_ HO_5 hb); have HO598 := M_ (Kd.R_lower ho0 (bZ_ HB)); replace HB := M_ (bS_ HB hb); clear hb ho0; obtain ⟨Ao30, co30, eo30⟩ := Kd.R_slice HO598.out; subst eo30))
          go_ret2
          exact ⟨_, by first | rfl | (simp [errW_none, errW_some] <;> rfl) | (simp only [← hji6]; first | rfl | (simp [errW_none, errW_some] <;> rfl)) | (simp [*, errW_none, errW_some] <;> rfl), by first | exact Kd.R_nil _ _ _ _ _ | exact Kd.N_nil _ _ _ _ _ | exact Kd.V_nil _ _ _ _ _ | exact Kd.Q_nil _ _ _ _ _ | exact Kd.S_nil _ _ _ _ _, by repeat (first | (with_reducible first | exact (below_step HBW.out HB.out) | apply ba_ | apply bn_ | apply b1_) | exact (below_step HBW.out HB.out))⟩
        ·rw [if_neg c14] at H
         exact absurd H (by simp)
       ·rw [if_neg c13] at H
        exact absurd H (by simp)
      ·rw [if_neg c12] at H
       have c12b0 : decide (x20_1 < (y591.length : Int)) = false := decide_eq_false c12
       clear c12;replace H := Option.bind_eq_some_iff.mp H;obtain ⟨t608, A310, H⟩ := H;(try dsimp only at H);have A31 := M_ A310;clear A310
       by_cases c32 : t608 = true
       ·subst c32
        rw [if_pos rfl] at H
        replace H := Option.bind_eq_some_iff.mp H;obtain ⟨t609, A330, H⟩ := H;(try dsimp only at H);have A33 := M_ A330;clear A330
        by_cases c34 : t609.toList = a0.toList
        focus
         rw [if_pos c34] at H
         have c34b0 : (t609.toList == a0.toList) = true := beq_iff_eq.mpr c34
         have c34b1 : (t609.toList != a0.toList) = false := bne_eq_false_iff_eq.mpr c34
         clear c34;simp only [Option.some.injEq, Prod.mk.injEq] at H;obtain ⟨rfl, rfl⟩ := H;obtain ⟨Ao35, co35, eo35⟩ := Kd.R_slice HO_5.out;subst eo35
        rotate_left
        focus
         rw [if_neg c34] at H
         have c34b0 : (t609.toList == a0.toList) = false := beq_eq_false_iff_ne.mpr c34
         have c34b1 : (t609.toList != a0.toList) = true := bne_iff_ne.mpr c34
         simp only [Option.some.injEq, Prod.mk.injEq] at H;obtain ⟨rfl, rfl⟩ := H;obtain ⟨Ao35, co35, eo38⟩ := Kd.R_slice HO_5.out;subst eo38
        rotate_left
        all_goals
         go_wp2_with (first | ((with_reducible refine gc_ 49 ?_); refine gM_ (some 47) Tryz.func49 #[.slice Ao35 x5_1.length co35] ?_; (with_reducible refine (spec_ntGood.calls k1 _ _ x5_1 true _ ?side1 ?side2 A31.out).mono ?_); (case side1 => exact cU_ (Kd.R_reads' HO_5.out).2.2); (case side2 => exact (Kd.R_reads' HO_5.out).2.1); rintro e w36 ⟨rfl, hb⟩; refine ⟨_, rfl, ?_⟩; replace HO_5 := M_ (rB_ HO_5 hb); replace HB := M_ (bS_ HB hb); clear hb) | (go_at_call 58; (with_reducible refine (spec_ntText.calls k1 _ _ x5_1 t609 _ ?side1 ?side2 A33.out).mono ?_); (case side1 => exact cU_ (Kd.R_reads' HO_5.out).2.2); (case side2 => exact (Kd.R_reads' HO_5.out).2.1); rintro e w37 ⟨rfl, hb⟩; replace HO_5 := M_ (rB_ HO_5 hb); replace HB := M_ (bS_ HB hb); clear hb))
         go_ret2
        ·exact ⟨_, by first | rfl | (simp [errW_none, errW_some] <;> rfl) | (simp only [← hji6]; first | rfl | (simp [errW_none, errW_some] <;> rfl)) | (simp [*, errW_none, errW_some] <;> rfl), Kd.R_lower (rU_ HO_5.out) (below_size HBW.out), by repeat (first | (with_reducible first | exact (below_step HBW.out HB.out) | apply ba_ | apply bn_ | apply b1_) | exact (below_step HBW.out HB.out))⟩
        ·exact ⟨_, by first | rfl | (simp [errW_none, errW_some] <;> rfl) | (simp only [← hji6]; first | rfl | (simp [errW_none, errW_some] <;> rfl)) | (simp [*, errW_none, errW_some] <;> rfl), by first | exact Kd.R_nil _ _ _ _ _ | exact Kd.N_nil _ _ _ _ _ | exact Kd.V_nil _ _ _ _ _ | exact Kd.Q_nil _ _ _ _ _ | exact Kd.S_nil _ _ _ _ _, by repeat (first | (with_reducible first | exact (below_step HBW.out HB.out) | apply ba_ | apply bn_ | apply b1_) | exact (below_step HBW.out HB.out))⟩
       ·replace c32 := Bool.eq_false_iff.mpr c32
        subst c32
        rw [if_neg (show ¬ (false = true) by decide)] at H
        simp only [Option.some.injEq, Prod.mk.injEq] at H;obtain ⟨rfl, rfl⟩ := H;obtain ⟨Ao41, co41, eo41⟩ := Kd.R_slice HO_5.out;subst eo41
        go_wp2_with (first | ((with_reducible refine gc_ 49 ?_); refine gM_ (some 47) Tryz.func49 #[.slice Ao41 x5_1.length co41] ?_; (with_reducible refine (spec_ntGood.calls k1 _ _ x5_1 false _ ?side1 ?side2 A31.out).mono ?_); (case side1 => exact cU_ (Kd.R_reads' HO_5.out).2.2); (case side2 => exact (Kd.R_reads' HO_5.out).2.1); rintro e w42 ⟨rfl, hb⟩; refine ⟨_, rfl, ?_⟩; replace HO_5 := M_ (rB_ HO_5 hb); replace HB := M_ (bS_ HB hb); clear hb))
        go_ret2
        exact ⟨_, by first | rfl | (simp [errW_none, errW_some] <;> rfl) | (simp only [← hji6]; first | rfl | (simp [errW_none, errW_some] <;> rfl)) | (simp [*, errW_none, errW_some] <;> rfl), by first | exact Kd.R_nil _ _ _ _ _ | exact Kd.N_nil _ _ _ _ _ | exact Kd.V_nil _ _ _ _ _ | exact Kd.Q_nil _ _ _ _ _ | exact Kd.S_nil _ _ _ _ _, by repeat (first | (with_reducible first | exact (below_step HBW.out HB.out) | apply ba_ | apply bn_ | apply b1_) | exact (below_step HBW.out HB.out))⟩
   ·rw [if_neg c8] at H
    exact absurd H (by simp)
  ·rw [if_neg c7] at H
   exact absurd H (by simp)
def spec_ParseScore.f (k : Nat) (a0 : ByteArray) : Option ((List (S31)) × Bool) := (spec_ntParse.f k a0).bind fun bt610 => (some (bt610.1, bt610.2))
theorem spec_ParseScore.mono : ∀ a0 k, LeO (spec_ParseScore.f k a0) (spec_ParseScore.f (k + 1) a0) := by
 intro a0 k
 unfold spec_ParseScore.f
 have m0_ := @spec_ntParse.mono;exact mo_
set_option maxHeartbeats 8000000 in
set_option maxRecDepth 100000 in
theorem spec_ParseScore.calls (k : Nat) (a0 : ByteArray) (r1 : List (S31)) (r2 : Bool) (w : World) (h : spec_ParseScore.f k a0 = some (r1, r2)) :
  Calls Tryz.prog 23 #[.string a0] w fun e w' => ∃ v0_ : Value, e = .returned (.tuple #[v0_, .bool r2]) ∧ Kd.R k31 31 w' w.heap.size (fun _ => True) v0_ r1 ∧ Below w.heap.size w w' := by
 have HB := M_ (Below.refl w.heap.size w)
 have H : ((spec_ntParse.f k a0).bind fun bt610 => (some (bt610.1, bt610.2))) = some (r1, r2) := h
 clear h;replace H := Option.bind_eq_some_iff.mp H;obtain ⟨⟨t610, t611⟩, A20, H⟩ := H;replace H : (some (t610, t611)) = some (r1, r2) := H;have A2 := M_ A20;clear A20;simp only [Option.some.injEq, Prod.mk.injEq] at H;obtain ⟨rfl, rfl⟩ := H
 go_enter Tryz.func23, Tryz.ntmps23
 go_wp2_with (first | ((with_reducible refine gc_ 66 ?_); refine gM_ (some 5) Tryz.func66 #[.string a0] ?_; (with_reducible refine (spec_ntParse.calls k a0 t610 t611 _ A2.out).mono ?_); rintro e w3 ⟨v612, rfl, ho0, hb⟩; refine ⟨_, rfl, ?_⟩; have HO613 := M_ (Kd.R_lower ho0 (bZ_ HB)); replace HB := M_ (bS_ HB hb); clear hb ho0))
 go_ret2
 exact ⟨_, eR_, rU_ HO613.out, bU_ HB⟩
end Go.Proofs.YtfpfjnmjekjnhaaGreatDoor.PFnNotes
