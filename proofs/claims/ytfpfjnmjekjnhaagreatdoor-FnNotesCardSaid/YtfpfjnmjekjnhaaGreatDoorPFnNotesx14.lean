-- by wip/xprint.py, over the kit's printer
import Derived.Test.YtfpfjnmjekjnhaaGreatDoorPFnNotesx0
import Derived.Test.YtfpfjnmjekjnhaaGreatDoorPFnNotesx11
import Derived.Test.YtfpfjnmjekjnhaaGreatDoorPFnNotesx13
namespace Go.Proofs.YtfpfjnmjekjnhaaGreatDoor.PFnNotes
open Go.RowKit Go.Proofs.YtfpfjnmjekjnhaaGreatDoorW.PrintWords Go.Proofs.YtfpfjnmjekjnhaaGreatDoorW.PrintLast Go.Proofs.YtfpfjnmjekjnhaaGreatDoorW.PrintMore
attribute [local go_sem] max2_int min2_int max_two min_two max_three min_three max_four min_four   -- for this text's walks alone
set_option linter.unusedVariables false
set_option linter.unusedSimpArgs false

mutual
def impl_decimal.j0 : Nat → ByteArray → Bool → Option (Int × Bool)
 | 0, _, _ => none
 | k + 1, x0, x22 => if x22 = true then (some (0, false)) else (impl_decimal.l0 k x0 0 0)
def impl_decimal.l0 : Nat → ByteArray → Int → Int → Option (Int × Bool)
 | 0, _, _, _ => none
 | k + 1, x0, x4, x5 => if x5 < (x0.size : Int) then (if 0 ≤ x5 then (if (bt x0 x5) < 48 then (some (0, false)) else (if (bt x0 x5) > 57 then (some (0, false)) else (impl_decimal.l0 k x0 (wrap64 ((wrap64 (10 * x4)) + (((bt x0 x5) - 48) % 256))) (wrap64 (x5 + 1))))) else (none)) else (some (x4, true))
end
def impl_decimal.f (k : Nat) (a0 : ByteArray) : Option (Int × Bool) := if a0.toList = ([] : List UInt8) then (impl_decimal.j0 k a0 true) else (if (a0.size : Int) > 9 then (impl_decimal.j0 k a0 true) else (if 0 < (a0.size : Int) then (if (bt a0 0) = 48 then (impl_decimal.j0 k a0 (decide ((a0.size : Int) > 1))) else (impl_decimal.j0 k a0 false)) else (none)))
theorem impl_decimal.mono_l : ∀ k, (∀ y0 y1, LeO (impl_decimal.j0 k y0 y1) (impl_decimal.j0 (k + 1) y0 y1)) ∧ (∀ y0 y1 y2, LeO (impl_decimal.l0 k y0 y1 y2) (impl_decimal.l0 (k + 1) y0 y1 y2))
 | 0 => ⟨fun _ _ r h => by simp [impl_decimal.j0] at h, fun _ _ _ r h => by simp [impl_decimal.l0] at h⟩
 | k + 1 => by
  obtain ⟨ih0, ih1⟩ := impl_decimal.mono_l k;refine ⟨?_, ?_⟩
  ·intro y0 y1
   unfold impl_decimal.j0
   exact mo_
  ·intro y0 y1 y2
   unfold impl_decimal.l0
   exact mo_
theorem impl_decimal.mono : ∀ a0 k, LeO (impl_decimal.f k a0) (impl_decimal.f (k + 1) a0) := by
 intro a0 k;obtain ⟨ih0, ih1⟩ := impl_decimal.mono_l k
 unfold impl_decimal.f
 exact mo_
set_option maxHeartbeats 8000000 in
set_option maxRecDepth 100000 in
theorem impl_decimal.calls (k : Nat) (a0 : ByteArray) (r1 : Int) (r2 : Bool) (w : World) (h : impl_decimal.f k a0 = some (r1, r2)) :
  Calls Tryz.prog 91 #[.string a0] w fun e w' => e = .returned (.tuple #[.int .i64 r1, .bool r2]) ∧ Drawn0 w w' := by
 have H : (if a0.toList = ([] : List UInt8) then (impl_decimal.j0 k a0 true) else (if (a0.size : Int) > 9 then (impl_decimal.j0 k a0 true) else (if 0 < (a0.size : Int) then (if (bt a0 0) = 48 then (impl_decimal.j0 k a0 (decide ((a0.size : Int) > 1))) else (impl_decimal.j0 k a0 false)) else (none)))) = some (r1, r2) := h
 clear h;have HC2 := M_ H;clear H
 go_enter Tryz.func91, Tryz.ntmps91
 go_upto_region 1 with (fail)
 go_cut [22] (fun v22 wc => ∃ (kq : Nat) (x22_1 : Bool), v22 = .bool x22_1 ∧ Aside0 (impl_decimal.j0 kq a0 x22_1 = some (r1, r2)) ∧ Aside0 (kq ≤ k) ∧ Drawn0 w wc)
 case first =>
  have H := HC2.out;clear HC2
  by_cases c3 : a0.toList = ([] : List UInt8)
  ·rw [if_pos c3] at H
   have c3b0 : (a0.toList == ([] : List UInt8)) = true := beq_iff_eq.mpr c3
   have c3b1 : (a0.toList != ([] : List UInt8)) = false := bne_eq_false_iff_eq.mpr c3
   clear c3
   (first | rw [c3b0] | (simp only [i64_w, i32_w]; rw [c3b0]) | skip)
   have H' := M_ H
   clear H
   go_wp2
   go_meet
   case rel => exact ⟨_, (true), eD_, H', ⟨by first | omega | exact Nat.le_refl _⟩, by repeat (first | exact Drawn0.refl _ | apply Drawn0.step)⟩
  ·rw [if_neg c3] at H
   have c3b0 : (a0.toList == ([] : List UInt8)) = false := beq_eq_false_iff_ne.mpr c3
   have c3b1 : (a0.toList != ([] : List UInt8)) = true := bne_iff_ne.mpr c3
   (first | rw [c3b0] | (simp only [i64_w, i32_w]; rw [c3b0]) | skip)
   by_cases c4 : (a0.size : Int) > 9
   ·rw [if_pos c4] at H
    have c4b0 : decide (9 < (a0.size : Int)) = true := decide_eq_true c4
    have c4b1 : decide (9 < a0.size) = true := decide_eq_true (by omega)
    clear c4
    have H' := M_ H
    clear H
    go_wp2
    go_meet
    case rel => exact ⟨_, (true), eD_, H', ⟨by first | omega | exact Nat.le_refl _⟩, by repeat (first | exact Drawn0.refl _ | apply Drawn0.step)⟩
   ·rw [if_neg c4] at H
    have c4b0 : decide (9 < (a0.size : Int)) = false := decide_eq_false c4
    have c4b1 : decide (9 < a0.size) = false := decide_eq_false (by omega)
    clear c4
    by_cases c5 : 0 < (a0.size : Int)
    ·rw [if_pos c5] at H
     have c5b0 : decide (0 < (a0.size : Int)) = true := decide_eq_true c5
     have c5b1 : decide (0 < a0.size) = true := decide_eq_true (by omega)
     clear c5
     by_cases c7 : (bt a0 0) = 48
     focus
      rw [if_pos c7] at H
      have c7b0 : ((bt a0 0) == 48) = true := beq_iff_eq.mpr c7
      have c7b1 : ((bt a0 0) != 48) = false := bne_eq_false_iff_eq.mpr c7
      clear c7
     rotate_left
     focus
      rw [if_neg c7] at H
      have c7b0 : ((bt a0 0) == 48) = false := beq_eq_false_iff_ne.mpr c7
      have c7b1 : ((bt a0 0) != 48) = true := bne_iff_ne.mpr c7
     rotate_left
     all_goals
      have H' := M_ H
      clear H
      have p6 : 0 ≤ (0 : Int) := (by omega)
      have q6 : 0 < a0.size := (by have : (0 : Int) < (a0.size : Int) := dT_; omega)
      have hx6 : ∀ h : 0 < a0.size, ((a0[0]'h).toNat : Int) = bt a0 0 := bt_at a0 0
      clear p6
      have qi6 : (0 < (a0.size : Int)) = True := eq_true (dT_)
      replace q6 := eq_true q6
      go_wp2
      go_meet
     ·case rel => exact ⟨_, (decide ((a0.size : Int) > 1)), eD_, H', ⟨by first | omega | exact Nat.le_refl _⟩, by repeat (first | exact Drawn0.refl _ | apply Drawn0.step)⟩
     ·case rel => exact ⟨_, (false), eD_, H', ⟨by first | omega | exact Nat.le_refl _⟩, by repeat (first | exact Drawn0.refl _ | apply Drawn0.step)⟩
    ·rw [if_neg c5] at H
     exact absurd H (by simp)
 case rest =>
  clear HC2;(try clear qi6);obtain ⟨kq, x22_1, rfl, HA, HJ1, ⟨mc1, rfl⟩⟩ := hcut
  cases kq with
  | zero => exact absurd HA.out (by simp [impl_decimal.j0])
  | succ kj1 =>
   have H := HA.out;clear HA;simp only [impl_decimal.j0] at H
   by_cases c8 : x22_1 = true
   ·subst c8
    rw [if_pos rfl] at H
    simp only [Option.some.injEq, Prod.mk.injEq] at H;obtain ⟨rfl, rfl⟩ := H
    go_wp2
    go_ret2
    exact ⟨by first | rfl | (simp; done) | (simp [*]; done), by repeat (first | exact Drawn0.refl _ | apply Drawn0.step)⟩
   ·replace c8 := Bool.eq_false_iff.mpr c8
    subst c8
    rw [if_neg (show ¬ (false = true) by decide)] at H
    have H' := M_ H
    clear H
    go_wp2
    go_loopg [4, 5] kj1 (fun kq v4 v5 w' => ∃ (x4_2 : Int) (x5_2 : Int), v4 = .int .i64 x4_2 ∧ v5 = .int .i64 x5_2 ∧ Aside0 (impl_decimal.l0 kq a0 x4_2 x5_2 = some (r1, r2)) ∧ Aside0 (kq ≤ kj1) ∧ Drawn0 w w')
    case atStart => exact ⟨(0), (0), eD_, eD_, H', ⟨Nat.le_refl _⟩, by repeat (first | exact Drawn0.refl _ | apply Drawn0.step)⟩
    case round =>
     clear H';(try clear qi6);obtain ⟨x4_2, x5_2, rfl, rfl, HA, HK2, ⟨m2, rfl⟩⟩ := hrel
     cases gk with
     | zero => exact absurd HA.out (by simp [impl_decimal.l0])
     | succ k2 =>
      have H := HA.out;clear HA;simp only [impl_decimal.l0] at H
      by_cases c9 : x5_2 < (a0.size : Int)
      ·rw [if_pos c9] at H
       have c9b0 : decide (x5_2 < (a0.size : Int)) = true := decide_eq_true c9
       clear c9
       by_cases c10 : 0 ≤ x5_2
       ·rw [if_pos c10] at H
        have c10b0 : decide (0 ≤ x5_2) = true := decide_eq_true c10
        clear c10
        by_cases c12 : (bt a0 x5_2) < 48
        ·rw [if_pos c12] at H
         have c12b0 : decide ((bt a0 x5_2) < 48) = true := decide_eq_true c12
         clear c12;simp only [Option.some.injEq, Prod.mk.injEq] at H;obtain ⟨rfl, rfl⟩ := H
         have p11 : 0 ≤ (x5_2 : Int) := dT_
         have q11 : x5_2 < (a0.size : Int) := dT_
         have hx11 := bt_at a0 x5_2;replace p11 := eq_true p11;replace q11 := eq_true q11
         go_wp2
         go_ret2
         exact ⟨by first | rfl | (simp; done) | (simp [*]; done), by repeat (first | exact Drawn0.refl _ | apply Drawn0.step)⟩
        ·rw [if_neg c12] at H
         have c12b0 : decide ((bt a0 x5_2) < 48) = false := decide_eq_false c12
         clear c12
         by_cases c14 : (bt a0 x5_2) > 57
         focus
          rw [if_pos c14] at H
          have c14b0 : decide (57 < (bt a0 x5_2)) = true := decide_eq_true c14
          clear c14;simp only [Option.some.injEq, Prod.mk.injEq] at H;obtain ⟨rfl, rfl⟩ := H
         rotate_left
         focus
          rw [if_neg c14] at H
          have c14b0 : decide (57 < (bt a0 x5_2)) = false := decide_eq_false c14
          clear c14
          have H' := M_ H
          clear H
          have p11 : 0 ≤ (x5_2 : Int) := dT_
          have q11 : x5_2 < (a0.size : Int) := dT_
          have hx11 := bt_at a0 x5_2;replace p11 := eq_true p11;replace q11 := eq_true q11
         rotate_left
         all_goals
          have p11 : 0 ≤ (x5_2 : Int) := dT_
          have q11 : x5_2 < (a0.size : Int) := dT_
          have hx11 := bt_at a0 x5_2;replace p11 := eq_true p11;replace q11 := eq_true q11
          have p13 : 0 ≤ (x5_2 : Int) := dT_
          have q13 : x5_2 < (a0.size : Int) := dT_
          have hx13 := bt_at a0 x5_2;replace p13 := eq_true p13;replace q13 := eq_true q13
          go_wp2
         ·go_ret2
          exact ⟨by first | rfl | (simp; done) | (simp [*]; done), by repeat (first | exact Drawn0.refl _ | apply Drawn0.step)⟩
         ·go_roundg k2
          case measure => have := HJ1.out; have := HK2.out; omega
          case rel => exact ⟨(wrap64 ((wrap64 (10 * x4_2)) + (((bt a0 x5_2) - 48) % 256))), (wrap64 (x5_2 + 1)), eD_, eD_, H', ⟨by have := HJ1.out; have := HK2.out; omega⟩, by repeat (first | exact Drawn0.refl _ | apply Drawn0.step)⟩
       ·rw [if_neg c10] at H
        exact absurd H (by simp)
      ·rw [if_neg c9] at H
       have c9b0 : decide (x5_2 < (a0.size : Int)) = false := decide_eq_false c9
       clear c9;simp only [Option.some.injEq, Prod.mk.injEq] at H;obtain ⟨rfl, rfl⟩ := H
       go_wp2
       go_ret2
       exact ⟨by first | rfl | (simp; done) | (simp [*]; done), by repeat (first | exact Drawn0.refl _ | apply Drawn0.step)⟩
def impl_numberLine.l0 : Nat → List Int → List ByteArray → Int → Int → Option (List Int × Bool)
 | 0, _, _, _, _ => none
 | k + 1, x7, x19, x20, x21 => if x21 < x20 then (if 0 ≤ x21 then (if x21 < (x19.length : Int) then ((impl_decimal.f k (rdOf ByteArray.empty x19 x21)).bind fun bt549 => (if bt549.2 = true then (if x7.length < 17592186044416 then (impl_numberLine.l0 k (x7 ++ [bt549.1]) x19 x20 (wrap64 (x21 + 1))) else (none)) else (some (([] : List Int), false)))) else (none)) else (none)) else (some (x7, true))
def impl_numberLine.f (k : Nat) (a0 : ByteArray) (a1 : Int) : Option (List Int × Bool) := (strings_Split.f a0 (⟨#[32]⟩ : ByteArray)).bind fun t542 => (if (t542.length : Int) = a1 then (impl_numberLine.l0 k (([] : List Int)) t542 (t542.length : Int) 0) else (some (([] : List Int), false)))
theorem impl_numberLine.mono_l : ∀ k, (∀ y0 y1 y2 y3, LeO (impl_numberLine.l0 k y0 y1 y2 y3) (impl_numberLine.l0 (k + 1) y0 y1 y2 y3))
 | 0 => fun _ _ _ _ r h => by simp [impl_numberLine.l0] at h
 | k + 1 => by
  have ih0 := impl_numberLine.mono_l k
  ·intro y0 y1 y2 y3
   unfold impl_numberLine.l0
   have m0_ := @impl_decimal.mono;exact mo_
theorem impl_numberLine.mono : ∀ a0 a1 k, LeO (impl_numberLine.f k a0 a1) (impl_numberLine.f (k + 1) a0 a1) := by
 intro a0 a1 k;have ih0 := impl_numberLine.mono_l k
 unfold impl_numberLine.f
 have m0_ := @impl_decimal.mono;exact mo_
set_option maxHeartbeats 8000000 in
set_option maxRecDepth 100000 in
theorem impl_numberLine.calls (k : Nat) (a0 : ByteArray) (a1 : Int) (r1 : List Int) (r2 : Bool) (w : World) (hM : ∃ m, w.cell? ⟨0, 0, none⟩ = some (.int .i64 m)) (h : impl_numberLine.f k a0 a1 = some (r1, r2)) :
  Calls Tryz.prog 64 #[.string a0, .int .i64 a1] w fun e w' => ∃ v0_ : Value, e = .returned (.tuple #[v0_, .bool r2]) ∧ Kd.R (Kd.int .i64) 3 w' w.heap.size (fun _ => True) v0_ r1 ∧ Below w.heap.size w w' := by
 have HM := M_ hM;clear hM;have HB := M_ (Below.refl w.heap.size w)
 have H : ((strings_Split.f a0 (⟨#[32]⟩ : ByteArray)).bind fun t542 => (if (t542.length : Int) = a1 then (impl_numberLine.l0 k (([] : List Int)) t542 (t542.length : Int) 0) else (some (([] : List Int), false)))) = some (r1, r2) := h
 clear h;replace H := Option.bind_eq_some_iff.mp H;obtain ⟨t542, A30, H⟩ := H;(try dsimp only at H);have A3 := M_ A30;clear A30
 by_cases c4 : (t542.length : Int) = a1
 focus
  rw [if_pos c4] at H
  have c4b0 : ((t542.length : Int) == a1) = true := beq_iff_eq.mpr c4
  have c4b1 : ((t542.length : Int) != a1) = false := bne_eq_false_iff_eq.mpr c4
  clear c4;obtain ⟨y545, hy545⟩ : ∃ y_ : List Int, y_ = (([] : List Int)) := ⟨_, rfl⟩
  replace H : (impl_numberLine.l0 k y545 t542 (t542.length : Int) 0) = some (r1, r2) := by first | (rw [hy545]; with_reducible exact H) | (have H2_ := (Option.bind_some _ _).symm.trans H; rw [hy545]; with_reducible exact H2_) | (have H2_ := (Option.bind_some _ _).symm.trans H; with_reducible exact H2_) | with_reducible exact H | (rw [hy545]; exact H) | exact H
  have Ny545 := M_ hy545;clear hy545
  have H' := M_ H
  clear H
 rotate_left
 focus
  rw [if_neg c4] at H
  have c4b0 : ((t542.length : Int) == a1) = false := beq_eq_false_iff_ne.mpr c4
  have c4b1 : ((t542.length : Int) != a1) = true := bne_iff_ne.mpr c4
  simp only [Option.some.injEq, Prod.mk.injEq] at H;obtain ⟨rfl, rfl⟩ := H
 rotate_left
 all_goals
  go_enter Tryz.func64, Tryz.ntmps64
  go_wp2_with (first | ((with_reducible refine gc_ 89 ?_); refine gM_ (some 13) Tryz.func89 #[.string a0, .string (⟨#[32]⟩ : ByteArray)] ?_; (with_reducible refine (strings_Split.calls a0 (⟨#[32]⟩ : ByteArray) t542 _ (someInt_ HM.out (bU_ HB)) A3.out).mono ?_); rintro e w5 ⟨v543, rfl, ho0, hb⟩; refine ⟨_, rfl, ?_⟩; have HO544 := M_ (Kd.R_lower ho0 (bZ_ HB)); replace HB := M_ (bS_ HB hb); clear hb ho0; obtain ⟨Ao6, co6, eo6⟩ := Kd.R_slice HO544.out; subst eo6) | ((with_reducible refine gate_dst (N := 18) rfl ?_); refine lt_ (Kd.int .i64) 3 (N := 18) (([] : List Int)) [] ri_ ?_; intro v546 w7 ho8 hb hg_ hnew_; clear hg_ hnew_; replace ho8 := rN_ Ny545 ho8; replace HO544 := M_ (rB_ HO544 hb); have HO547 := M_ (Kd.R_lower ho8 (bZ_ HB)); replace HB := M_ (bS_ HB hb); clear hb ho8))
 ·go_loopg [7, 21] k (fun kq v7 v21 w' => ∃ (x7_1 : List Int) (x21_1 : Int), v21 = .int .i64 x21_1 ∧ Aside0 (impl_numberLine.l0 kq x7_1 t542 (t542.length : Int) x21_1 = some (r1, r2)) ∧ Aside0 (kq ≤ k) ∧ Aside0 (Kd.R (Kd.int .i64) 3 w' w.heap.size (fun _ => True) v7 x7_1) ∧ Aside0 (Kd.R Kd.string 9 w' w.heap.size (fun _ => True) (.slice Ao6 t542.length co6) t542) ∧ Aside0 (Below w.heap.size w w'))
  case atStart => exact ⟨(y545), (0), eD_, H', ⟨Nat.le_refl _⟩, ⟨rU_ HO547.out⟩, ⟨rU_ HO544.out⟩, ⟨bU_ HB⟩⟩
  case round =>
   clear H';obtain ⟨x7_1, x21_1, rfl, HA, HK1, HO_7, HO_19, HB⟩ := hrel
   cases gk with
   | zero => exact absurd HA.out (by simp [impl_numberLine.l0])
   | succ k1 =>
    have H := HA.out;clear HA;simp only [impl_numberLine.l0] at H
    by_cases c9 : x21_1 < (t542.length : Int)
    ·rw [if_pos c9] at H
     have c9b0 : decide (x21_1 < (t542.length : Int)) = true := decide_eq_true c9
     clear c9
     by_cases c10 : 0 ≤ x21_1
     ·rw [if_pos c10] at H
      have c10b0 : decide (0 ≤ x21_1) = true := decide_eq_true c10
      clear c10
      by_cases c11 : x21_1 < (t542.length : Int)
      ·rw [if_pos c11] at H
       have c11b0 : decide (x21_1 < (t542.length : Int)) = true := decide_eq_true c11
       clear c11;replace H := Option.bind_eq_some_iff.mp H;obtain ⟨⟨t549, t550⟩, A120, H⟩ := H;(try dsimp only at H);have A12 := M_ A120;clear A120
       by_cases c13 : t550 = true
       ·subst c13
        rw [if_pos rfl] at H
        by_cases c14 : x7_1.length < 17592186044416
        ·rw [if_pos c14] at H
         have LMc14 := M_ c14;clear c14;obtain ⟨y551, hy551⟩ : ∃ y_ : List Int, y_ = (x7_1 ++ [t549]) := ⟨_, rfl⟩
         replace H : (impl_numberLine.l0 k1 y551 t542 (t542.length : Int) (wrap64 (x21_1 + 1))) = some (r1, r2) := by first | (rw [hy551]; with_reducible exact H) | (have H2_ := (Option.bind_some _ _).symm.trans H; rw [hy551]; with_reducible exact H2_) | (have H2_ := (Option.bind_some _ _).symm.trans H; with_reducible exact H2_) | with_reducible exact H | (rw [hy551]; exact H) | exact H
         have Ny551 := M_ hy551;clear hy551
         have H' := M_ H
         clear H
         have p548 : 0 ≤ (x21_1 : Int) := dT_
         have q548 : x21_1 < (t542.length : Int) := dT_
         obtain ⟨ad548, e548, hx548_0⟩ := Kd.at_string (Kd.R_reads' HO_19.out).2.2 x21_1 p548 q548;cases e548;replace p548 := eq_true p548;replace q548 := eq_true q548
         go_wp2_with (first | ((with_reducible refine gc_ 91 ?_); refine gM_ (some 27) Tryz.func91 #[.string (rdOf ByteArray.empty t542 x21_1)] ?_; (with_reducible refine (impl_decimal.calls k1 (rdOf ByteArray.empty t542 x21_1) t549 true _ A12.out).mono ?_); rintro e w' ⟨rfl, ⟨nd, rfl⟩⟩; refine ⟨_, rfl, ?_⟩) | ((with_reducible refine gate_builtin (b := .append) (xs := #[.tmp 32, .tmp 34]) rfl ?_); at_builtin; refine Kd.R_append (Kd.int .i64) (w0 := w) w.heap.size rfl (.tmp 32) (.tmp 34) 38 3 (.int .i64 0) 8 rfl Tryz.underlying38 info3 rfl (by decide) (by omega) u7 x7_1 t549 [.int .i64 t549] (fun _ => True) (fun _ => False) rfl rfl ?aP (fun _ hk => hk.elim) ?aF ?aO ?aB ?aS ?aL ?_; (case aP => exact rfl); (case aB => exact (bU_ HB)); (case aF => exact (fun _ _ => trivial)); (case aO => exact (rU_ HO_7.out)); (case aS => exact (bZ_ HB)); (case aL => have := LMc14.out; omega); intro v552 w15 ho hb hg hat; rw [← Ny551.out] at ho; replace HO_19 := M_ (Kd.R_over' (rU_ HO_19.out) (Kd.R_typed (rU_ HO_7.out)) (by decide) hg); replace HB := M_ (hb); have HO553 := M_ (ho); clear HO_7; clear ho hb hg hat))
         go_roundg k1
         case measure => have := HK1.out; omega
         case rel => exact ⟨(y551), (wrap64 (x21_1 + 1)), eD_, H', ⟨by have := HK1.out; omega⟩, ⟨rU_ HO553.out⟩, ⟨rU_ HO_19.out⟩, ⟨bU_ HB⟩⟩
        ·rw [if_neg c14] at H
         exact absurd H (by simp)
       ·replace c13 := Bool.eq_false_iff.mpr c13
        subst c13
        rw [if_neg (show ¬ (false = true) by decide)] at H
        simp only [Option.some.injEq, Prod.mk.injEq] at H;obtain ⟨rfl, rfl⟩ := H
        have p548 : 0 ≤ (x21_1 : Int) := dT_
        have q548 : x21_1 < (t542.length : Int) := dT_
        obtain ⟨ad548, e548, hx548_0⟩ := Kd.at_string (Kd.R_reads' HO_19.out).2.2 x21_1 p548 q548;cases e548;replace p548 := eq_true p548;replace q548 := eq_true q548
        go_wp2_with (first | ((with_reducible refine gc_ 91 ?_); refine gM_ (some 27) Tryz.func91 #[.string (rdOf ByteArray.empty t542 x21_1)] ?_; (with_reducible refine (impl_decimal.calls k1 (rdOf ByteArray.empty t542 x21_1) t549 false _ A12.out).mono ?_); rintro e w' ⟨rfl, ⟨nd, rfl⟩⟩; refine ⟨_, rfl, ?_⟩))
        go_ret2
        exact ⟨_, eR_, by first | exact Kd.R_nil _ _ _ _ _ | exact Kd.N_nil _ _ _ _ _ | exact Kd.V_nil _ _ _ _ _ | exact Kd.Q_nil _ _ _ _ _ | exact Kd.S_nil _ _ _ _ _, bU_ HB⟩
      ·rw [if_neg c11] at H
       exact absurd H (by simp)
     ·rw [if_neg c10] at H
      exact absurd H (by simp)
    ·rw [if_neg c9] at H
     have c9b0 : decide (x21_1 < (t542.length : Int)) = false := decide_eq_false c9
     clear c9;simp only [Option.some.injEq, Prod.mk.injEq] at H;obtain ⟨rfl, rfl⟩ := H
     go_wp2
     go_ret2
     exact ⟨_, eR_, rU_ HO_7.out, bU_ HB⟩
 ·go_ret2
  exact ⟨_, eR_, by first | exact Kd.R_nil _ _ _ _ _ | exact Kd.N_nil _ _ _ _ _ | exact Kd.V_nil _ _ _ _ _ | exact Kd.Q_nil _ _ _ _ _ | exact Kd.S_nil _ _ _ _ _, bU_ HB⟩
def impl_pitchNamed.l0 : Nat → ByteArray → Int → Option (Int)
 | 0, _, _ => none
 | k + 1, x0, x3 => if x3 ≤ 96 then ((impl_pitchName.f x3).bind fun t554 => (if t554.toList = x0.toList then (some x3) else (impl_pitchNamed.l0 k x0 (wrap64 (x3 + 1))))) else (some 0)
def impl_pitchNamed.f (k : Nat) (a0 : ByteArray) : Option (Int) := impl_pitchNamed.l0 k a0 24
theorem impl_pitchNamed.mono_l : ∀ k, (∀ y0 y1, LeO (impl_pitchNamed.l0 k y0 y1) (impl_pitchNamed.l0 (k + 1) y0 y1))
 | 0 => fun _ _ r h => by simp [impl_pitchNamed.l0] at h
 | k + 1 => by
  have ih0 := impl_pitchNamed.mono_l k
  ·intro y0 y1
   unfold impl_pitchNamed.l0
   exact mo_
theorem impl_pitchNamed.mono : ∀ a0 k, LeO (impl_pitchNamed.f k a0) (impl_pitchNamed.f (k + 1) a0) := by
 intro a0 k;have ih0 := impl_pitchNamed.mono_l k
 unfold impl_pitchNamed.f
 exact mo_
set_option maxHeartbeats 8000000 in
set_option maxRecDepth 100000 in
theorem impl_pitchNamed.calls (k : Nat) (a0 : ByteArray) (r : Int) (w : World) (h : impl_pitchNamed.f k a0 = some r) :
  Calls Tryz.prog 65 #[.string a0] w fun e w' => e = .returned (.int .i64 r) ∧ Below w.heap.size w w' := by
 have HB := M_ (Below.refl w.heap.size w)
 have H : (impl_pitchNamed.l0 k a0 24) = some r := h
 clear h
 have H' := M_ H
 clear H
 go_enter Tryz.func65, Tryz.ntmps65
 go_wp2
 go_loopg [3] k (fun kq v3 w' => ∃ (x3_1 : Int), v3 = .int .i64 x3_1 ∧ Aside0 (impl_pitchNamed.l0 kq a0 x3_1 = some r) ∧ Aside0 (kq ≤ k) ∧ Aside0 (Below w.heap.size w w'))
 case atStart => exact ⟨(24), eD_, H', ⟨Nat.le_refl _⟩, ⟨bU_ HB⟩⟩
 case round =>
  clear H';obtain ⟨x3_1, rfl, HA, HK1, HB⟩ := hrel
  cases gk with
  | zero => exact absurd HA.out (by simp [impl_pitchNamed.l0])
  | succ k1 =>
   have H := HA.out;clear HA;simp only [impl_pitchNamed.l0] at H
   by_cases c2 : x3_1 ≤ 96
   ·rw [if_pos c2] at H
    have c2b0 : decide (x3_1 ≤ 96) = true := decide_eq_true c2
    clear c2;replace H := Option.bind_eq_some_iff.mp H;obtain ⟨t554, A30, H⟩ := H;(try dsimp only at H);have A3 := M_ A30;clear A30
    by_cases c4 : t554.toList = a0.toList
    focus
     rw [if_pos c4] at H
     have c4b0 : (t554.toList == a0.toList) = true := beq_iff_eq.mpr c4
     have c4b1 : (t554.toList != a0.toList) = false := bne_eq_false_iff_eq.mpr c4
     clear c4;obtain rfl := Option.some.inj H
    rotate_left
    focus
     rw [if_neg c4] at H
     have c4b0 : (t554.toList == a0.toList) = false := beq_eq_false_iff_ne.mpr c4
     have c4b1 : (t554.toList != a0.toList) = true := bne_iff_ne.mpr c4
     have H' := M_ H
     clear H
    rotate_left
    all_goals
     go_wp2_with (first | ((with_reducible refine gc_ 55 ?_); refine gM_ (some 9) Tryz.func55 #[.int .i64 x3_1] ?_; (with_reducible refine (impl_pitchName.calls x3_1 t554 _ A3.out).mono ?_); rintro e w5 ⟨rfl, hb⟩; refine ⟨_, rfl, ?_⟩; replace HB := M_ (bS_ HB hb); clear hb))
    ·go_ret
     exact ⟨eR_, bU_ HB⟩
    ·go_roundg k1
     case measure => have := HK1.out; omega
     case rel => exact ⟨(wrap64 (x3_1 + 1)), eD_, H', ⟨by have := HK1.out; omega⟩, ⟨bU_ HB⟩⟩
   ·rw [if_neg c2] at H
    have c2b0 : decide (x3_1 ≤ 96) = false := decide_eq_false c2
    clear c2;obtain rfl := Option.some.inj H
    go_wp2
    go_ret
    exact ⟨eR_, bU_ HB⟩
end Go.Proofs.YtfpfjnmjekjnhaaGreatDoor.PFnNotes
