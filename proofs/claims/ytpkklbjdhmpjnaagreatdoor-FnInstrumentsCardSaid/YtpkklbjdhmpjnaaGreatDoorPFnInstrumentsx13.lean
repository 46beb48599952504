-- by wip/xprint.py, over the kit's printer
import Derived.Test.YtpkklbjdhmpjnaaGreatDoorPFnInstrumentsx0
import Derived.Test.YtpkklbjdhmpjnaaGreatDoorPFnInstrumentsx4
import Derived.Test.YtpkklbjdhmpjnaaGreatDoorPFnInstrumentsx5
import Derived.Test.YtpkklbjdhmpjnaaGreatDoorPFnInstrumentsx12
namespace Go.Proofs.YtpkklbjdhmpjnaaGreatDoor.PFnInstruments
open Go.RowKit Go.Proofs.YtpkklbjdhmpjnaaGreatDoorW.PrintWords Go.Proofs.YtpkklbjdhmpjnaaGreatDoorW.PrintLast Go.Proofs.YtpkklbjdhmpjnaaGreatDoorW.PrintMore
attribute [local go_sem] max2_int min2_int max_two min_two max_three min_three max_four min_four   -- for this text's walks alone
set_option linter.unusedVariables false
set_option linter.unusedSimpArgs false

mutual
def spec_l1Read.j0 : Nat → ByteArray → Bool → Option (Int)
 | 0, _, _ => none
 | k + 1, x0, x18 => if x18 = true then (some (-1)) else (spec_l1Read.l0 k x0 0 0)
def spec_l1Read.l0 : Nat → ByteArray → Int → Int → Option (Int)
 | 0, _, _, _ => none
 | k + 1, x0, x3, x4 => if x4 < (x0.size : Int) then (if 0 ≤ x4 then (if (bt x0 x4) < 48 then (some (-1)) else (if (bt x0 x4) > 57 then (some (-1)) else (spec_l1Read.l0 k x0 (wrap64 ((wrap64 (10 * x3)) + (((bt x0 x4) - 48) % 256))) (wrap64 (x4 + 1))))) else (none)) else (some x3)
end
def spec_l1Read.f (k : Nat) (a0 : ByteArray) : Option (Int) := (spec_l1In.f (a0.size : Int) 1 6).bind fun t525 => (if t525 = true then (if 0 < (a0.size : Int) then (if (bt a0 0) = 48 then (spec_l1Read.j0 k a0 (decide ((a0.size : Int) > 1))) else (spec_l1Read.j0 k a0 false)) else (none)) else (spec_l1Read.j0 k a0 true))
theorem spec_l1Read.mono_l : ∀ k, (∀ y0 y1, LeO (spec_l1Read.j0 k y0 y1) (spec_l1Read.j0 (k + 1) y0 y1)) ∧ (∀ y0 y1 y2, LeO (spec_l1Read.l0 k y0 y1 y2) (spec_l1Read.l0 (k + 1) y0 y1 y2))
 | 0 => ⟨fun _ _ r h => by simp [spec_l1Read.j0] at h, fun _ _ _ r h => by simp [spec_l1Read.l0] at h⟩
 | k + 1 => by
  obtain ⟨ih0, ih1⟩ := spec_l1Read.mono_l k;refine ⟨?_, ?_⟩
  ·intro y0 y1
   unfold spec_l1Read.j0
   exact mo_
  ·intro y0 y1 y2
   unfold spec_l1Read.l0
   exact mo_
theorem spec_l1Read.mono : ∀ a0 k, LeO (spec_l1Read.f k a0) (spec_l1Read.f (k + 1) a0) := by
 intro a0 k;obtain ⟨ih0, ih1⟩ := spec_l1Read.mono_l k
 unfold spec_l1Read.f
 exact mo_
set_option maxHeartbeats 8000000 in
set_option maxRecDepth 100000 in
theorem spec_l1Read.calls (k : Nat) (a0 : ByteArray) (r : Int) (w : World) (h : spec_l1Read.f k a0 = some r) :
  Calls Tryz.prog 66 #[.string a0] w fun e w' => e = .returned (.int .i64 r) ∧ Drawn0 w w' := by
 have H : ((spec_l1In.f (a0.size : Int) 1 6).bind fun t525 => (if t525 = true then (if 0 < (a0.size : Int) then (if (bt a0 0) = 48 then (spec_l1Read.j0 k a0 (decide ((a0.size : Int) > 1))) else (spec_l1Read.j0 k a0 false)) else (none)) else (spec_l1Read.j0 k a0 true))) = some r := h
 clear h;have HC2 := M_ H;clear H
 go_enter Tryz.func66, Tryz.ntmps66
 go_upto_region 1 with (fail)
 go_cut [18] (fun v18 wc => ∃ (kq : Nat) (x18_1 : Bool), v18 = .bool x18_1 ∧ Aside0 (spec_l1Read.j0 kq a0 x18_1 = some r) ∧ Aside0 (kq ≤ k) ∧ Drawn0 w wc)
 case first =>
  have H := HC2.out;clear HC2;replace H := Option.bind_eq_some_iff.mp H;obtain ⟨t525, A30, H⟩ := H;(try dsimp only at H);have A3 := M_ A30;clear A30
  by_cases c4 : t525 = true
  ·subst c4
   rw [if_pos rfl] at H
   by_cases c5 : 0 < (a0.size : Int)
   ·rw [if_pos c5] at H
    have c5b0 : decide (0 < (a0.size : Int)) = true := decide_eq_true c5
    have c5b1 : decide (0 < a0.size) = true := decide_eq_true (by omega)
    clear c5
    (first | rw [c5b0] | (simp only [i64_w, i32_w]; rw [c5b0]) | skip)
    by_cases c7 : (bt a0 0) = 48
    ·rw [if_pos c7] at H
     have c7b0 : ((bt a0 0) == 48) = true := beq_iff_eq.mpr c7
     have c7b1 : ((bt a0 0) != 48) = false := bne_eq_false_iff_eq.mpr c7
     clear c7
     have H' := M_ H
     clear H
     go_wp2_with (first | ((with_reducible refine gc_ 42 ?_); refine gM_ (some 7) Tryz.func42 #[.int .i64 (a0.size : Int), .int .i64 1, .int .i64 6] ?_; (with_reducible refine (spec_l1In.calls (a0.size : Int) 1 6 true _ A3.out).mono ?_); rintro e w' ⟨rfl, ⟨nd, rfl⟩⟩; refine ⟨_, rfl, ?_⟩; have p6 : 0 ≤ (0 : Int) := (by omega); have q6 : 0 < a0.size := (by have : (0 : Int) < (a0.size : Int) := dT_; omega); have hx6 : ∀ h : 0 < a0.size, ((a0[0]'h).toNat : Int) = bt a0 0 := bt_at a0 0; clear p6; have qi6 : (0 < (a0.size : Int)) = True := eq_true (dT_); replace q6 := eq_true q6))
     go_meet
     case rel => exact ⟨_, (decide ((a0.size : Int) > 1)), eD_, H', ⟨by first | omega | exact Nat.le_refl _⟩, by repeat (first | exact Drawn0.refl _ | apply Drawn0.step)⟩
    ·rw [if_neg c7] at H
     have c7b0 : ((bt a0 0) == 48) = false := beq_eq_false_iff_ne.mpr c7
     have c7b1 : ((bt a0 0) != 48) = true := bne_iff_ne.mpr c7
     have H' := M_ H
     clear H
     go_wp2_with (first | ((with_reducible refine gc_ 42 ?_); refine gM_ (some 7) Tryz.func42 #[.int .i64 (a0.size : Int), .int .i64 1, .int .i64 6] ?_; (with_reducible refine (spec_l1In.calls (a0.size : Int) 1 6 true _ A3.out).mono ?_); rintro e w' ⟨rfl, ⟨nd, rfl⟩⟩; refine ⟨_, rfl, ?_⟩; have p6 : 0 ≤ (0 : Int) := (by omega); have q6 : 0 < a0.size := (by have : (0 : Int) < (a0.size : Int) := dT_; omega); have hx6 : ∀ h : 0 < a0.size, ((a0[0]'h).toNat : Int) = bt a0 0 := bt_at a0 0; clear p6; have qi6 : (0 < (a0.size : Int)) = True := eq_true (dT_); replace q6 := eq_true q6))
     go_meet
     case rel => exact ⟨_, (false), eD_, H', ⟨by first | omega | exact Nat.le_refl _⟩, by repeat (first | exact Drawn0.refl _ | apply Drawn0.step)⟩
   ·rw [if_neg c5] at H
    exact absurd H (by simp)
  ·replace c4 := Bool.eq_false_iff.mpr c4
   subst c4
   rw [if_neg (show ¬ (false = true) by decide)] at H
   have H' := M_ H
   clear H
   go_wp2_with (first | ((with_reducible refine gc_ 42 ?_); refine gM_ (some 7) Tryz.func42 #[.int .i64 (a0.size : Int), .int .i64 1, .int .i64 6] ?_; (with_reducible refine (spec_l1In.calls (a0.size : Int) 1 6 false _ A3.out).mono ?_); rintro e w' ⟨rfl, ⟨nd, rfl⟩⟩; refine ⟨_, rfl, ?_⟩))
   go_meet
   case rel => exact ⟨_, (true), eD_, H', ⟨by first | omega | exact Nat.le_refl _⟩, by repeat (first | exact Drawn0.refl _ | apply Drawn0.step)⟩
 case rest =>
  clear HC2;(try clear qi6);obtain ⟨kq, x18_1, rfl, HA, HJ1, ⟨mc1, rfl⟩⟩ := hcut
  cases kq with
  | zero => exact absurd HA.out (by simp [spec_l1Read.j0])
  | succ kj1 =>
   have H := HA.out;clear HA;simp only [spec_l1Read.j0] at H
   by_cases c8 : x18_1 = true
   ·subst c8
    have H1 : (some (-1)) = some r := by rw [if_pos rfl] at H; exact H
    clear H;have H := H1;clear H1;obtain rfl := Option.some.inj H
    go_wp2
    go_ret
    exact ⟨by first | rfl | (simp; done) | (simp [*]; done), by repeat (first | exact Drawn0.refl _ | apply Drawn0.step)⟩
   ·replace c8 := Bool.eq_false_iff.mpr c8
    subst c8
    rw [if_neg (show ¬ (false = true) by decide)] at H
    have H' := M_ H
    clear H
    go_wp2
    go_loopg [3, 4] kj1 (fun kq v3 v4 w' => ∃ (x3_2 : Int) (x4_2 : Int), v3 = .int .i64 x3_2 ∧ v4 = .int .i64 x4_2 ∧ Aside0 (spec_l1Read.l0 kq a0 x3_2 x4_2 = some r) ∧ Aside0 (kq ≤ kj1) ∧ Drawn0 w w')
    case atStart => exact ⟨(0), (0), eD_, eD_, H', ⟨Nat.le_refl _⟩, by repeat (first | exact Drawn0.refl _ | apply Drawn0.step)⟩
    case round =>
     clear H';(try clear qi6);obtain ⟨x3_2, x4_2, rfl, rfl, HA, HK2, ⟨m2, rfl⟩⟩ := hrel
     cases gk with
     | zero => exact absurd HA.out (by simp [spec_l1Read.l0])
     | succ k2 =>
      have H := HA.out;clear HA;simp only [spec_l1Read.l0] at H
      by_cases c9 : x4_2 < (a0.size : Int)
      ·rw [if_pos c9] at H
       have c9b0 : decide (x4_2 < (a0.size : Int)) = true := decide_eq_true c9
       clear c9
       by_cases c10 : 0 ≤ x4_2
       ·rw [if_pos c10] at H
        have c10b0 : decide (0 ≤ x4_2) = true := decide_eq_true c10
        clear c10
        by_cases c12 : (bt a0 x4_2) < 48
        ·rw [if_pos c12] at H
         have c12b0 : decide ((bt a0 x4_2) < 48) = true := decide_eq_true c12
         clear c12;obtain rfl := Option.some.inj H
         have p11 : 0 ≤ (x4_2 : Int) := dT_
         have q11 : x4_2 < (a0.size : Int) := dT_
         have hx11 := bt_at a0 x4_2;replace p11 := eq_true p11;replace q11 := eq_true q11
         go_wp2
         go_ret
         exact ⟨by first | rfl | (simp; done) | (simp [*]; done), by repeat (first | exact Drawn0.refl _ | apply Drawn0.step)⟩
        ·rw [if_neg c12] at H
         have c12b0 : decide ((bt a0 x4_2) < 48) = false := decide_eq_false c12
         clear c12
         by_cases c14 : (bt a0 x4_2) > 57
         ·rw [if_pos c14] at H
          have c14b0 : decide (57 < (bt a0 x4_2)) = true := decide_eq_true c14
          clear c14;obtain rfl := Option.some.inj H
          have p11 : 0 ≤ (x4_2 : Int) := dT_
          have q11 : x4_2 < (a0.size : Int) := dT_
          have hx11 := bt_at a0 x4_2;replace p11 := eq_true p11;replace q11 := eq_true q11
          have p13 : 0 ≤ (x4_2 : Int) := dT_
          have q13 : x4_2 < (a0.size : Int) := dT_
          have hx13 := bt_at a0 x4_2;replace p13 := eq_true p13;replace q13 := eq_true q13
          go_wp2
          go_ret
          exact ⟨by first | rfl | (simp; done) | (simp [*]; done), by repeat (first | exact Drawn0.refl _ | apply Drawn0.step)⟩
         ·rw [if_neg c14] at H
          have c14b0 : decide (57 < (bt a0 x4_2)) = false := decide_eq_false c14
          clear c14
          have H' := M_ H
          clear H
          have p11 : 0 ≤ (x4_2 : Int) := dT_
          have q11 : x4_2 < (a0.size : Int) := dT_
          have hx11 := bt_at a0 x4_2;replace p11 := eq_true p11;replace q11 := eq_true q11
          have p13 : 0 ≤ (x4_2 : Int) := dT_
          have q13 : x4_2 < (a0.size : Int) := dT_
          have hx13 := bt_at a0 x4_2;replace p13 := eq_true p13;replace q13 := eq_true q13
          have p15 : 0 ≤ (x4_2 : Int) := dT_
          have q15 : x4_2 < (a0.size : Int) := dT_
          have hx15 := bt_at a0 x4_2;replace p15 := eq_true p15;replace q15 := eq_true q15
          go_wp2
          go_roundg k2
          case measure => have := HJ1.out; have := HK2.out; omega
          case rel => exact ⟨(wrap64 ((wrap64 (10 * x3_2)) + (((bt a0 x4_2) - 48) % 256))), (wrap64 (x4_2 + 1)), eD_, eD_, H', ⟨by have := HJ1.out; have := HK2.out; omega⟩, by repeat (first | exact Drawn0.refl _ | apply Drawn0.step)⟩
       ·rw [if_neg c10] at H
        exact absurd H (by simp)
      ·rw [if_neg c9] at H
       have c9b0 : decide (x4_2 < (a0.size : Int)) = false := decide_eq_false c9
       clear c9;obtain rfl := Option.some.inj H
       go_wp2
       go_ret
       exact ⟨by first | rfl | (simp; done) | (simp [*]; done), by repeat (first | exact Drawn0.refl _ | apply Drawn0.step)⟩

def spec_ntRead.l0 : Nat → ByteArray → Int → Option (Int)
 | 0, _, _ => none
 | k + 1, x0, x3 => if x3 ≤ 96 then ((spec_ntName.f k x3).bind fun t526 => (if t526.toList = x0.toList then (some x3) else (spec_ntRead.l0 k x0 (wrap64 (x3 + 1))))) else (some (-1))
def spec_ntRead.f (k : Nat) (a0 : ByteArray) : Option (Int) := spec_ntRead.l0 k a0 24
theorem spec_ntRead.mono_l : ∀ k, (∀ y0 y1, LeO (spec_ntRead.l0 k y0 y1) (spec_ntRead.l0 (k + 1) y0 y1))
 | 0 => fun _ _ r h => by simp [spec_ntRead.l0] at h
 | k + 1 => by
  have ih0 := spec_ntRead.mono_l k
  ·intro y0 y1
   unfold spec_ntRead.l0
   have m0_ := @spec_ntName.mono;exact mo_
theorem spec_ntRead.mono : ∀ a0 k, LeO (spec_ntRead.f k a0) (spec_ntRead.f (k + 1) a0) := by
 intro a0 k;have ih0 := spec_ntRead.mono_l k
 unfold spec_ntRead.f
 have m0_ := @spec_ntName.mono;exact mo_
set_option maxHeartbeats 8000000 in
set_option maxRecDepth 100000 in
theorem spec_ntRead.calls (k : Nat) (a0 : ByteArray) (r : Int) (w : World) (h : spec_ntRead.f k a0 = some r) :
  Calls Tryz.prog 67 #[.string a0] w fun e w' => e = .returned (.int .i64 r) ∧ Below w.heap.size w w' := by
 have HB := M_ (Below.refl w.heap.size w)
 have H : (spec_ntRead.l0 k a0 24) = some r := h
 clear h
 have H' := M_ H
 clear H
 go_enter Tryz.func67, Tryz.ntmps67
 go_wp2
 go_loopg [3] k (fun kq v3 w' => ∃ (x3_1 : Int), v3 = .int .i64 x3_1 ∧ Aside0 (spec_ntRead.l0 kq a0 x3_1 = some r) ∧ Aside0 (kq ≤ k) ∧ Aside0 (Below w.heap.size w w'))
 case atStart => exact ⟨(24), eD_, H', ⟨Nat.le_refl _⟩, ⟨bU_ HB⟩⟩
 case round =>
  clear H';obtain ⟨x3_1, rfl, HA, HK1, HB⟩ := hrel
  cases gk with
  | zero => exact absurd HA.out (by simp [spec_ntRead.l0])
  | succ k1 =>
   have H := HA.out;clear HA;simp only [spec_ntRead.l0] at H
   by_cases c2 : x3_1 ≤ 96
   ·rw [if_pos c2] at H
    have c2b0 : decide (x3_1 ≤ 96) = true := decide_eq_true c2
    clear c2;replace H := Option.bind_eq_some_iff.mp H;obtain ⟨t526, A30, H⟩ := H;(try dsimp only at H);have A3 := M_ A30;clear A30
    by_cases c4 : t526.toList = a0.toList
    ·rw [if_pos c4] at H
     have c4b0 : (t526.toList == a0.toList) = true := beq_iff_eq.mpr c4
     have c4b1 : (t526.toList != a0.toList) = false := bne_eq_false_iff_eq.mpr c4
     clear c4;obtain rfl := Option.some.inj H
     go_wp2_with (first | ((with_reducible refine gc_ 56 ?_); refine gM_ (some 9) Tryz.func56 #[.int .i64 x3_1] ?_; (with_reducible refine (spec_ntName.calls k1 x3_1 t526 _ A3.out).mono ?_); rintro e w5 ⟨rfl, hb⟩; refine ⟨_, rfl, ?_⟩; replace HB := M_ (bS_ HB hb); clear hb))
     go_ret
     exact ⟨eR_, bU_ HB⟩
    ·rw [if_neg c4] at H
     have c4b0 : (t526.toList == a0.toList) = false := beq_eq_false_iff_ne.mpr c4
     have c4b1 : (t526.toList != a0.toList) = true := bne_iff_ne.mpr c4
     have H' := M_ H
     clear H
     go_wp2_with (first | ((with_reducible refine gc_ 56 ?_); refine gM_ (some 9) Tryz.func56 #[.int .i64 x3_1] ?_; (with_reducible refine (spec_ntName.calls k1 x3_1 t526 _ A3.out).mono ?_); rintro e w6 ⟨rfl, hb⟩; refine ⟨_, rfl, ?_⟩; replace HB := M_ (bS_ HB hb); clear hb))
     go_roundg k1
     case measure => have := HK1.out; omega
     case rel => exact ⟨(wrap64 (x3_1 + 1)), eD_, H', ⟨by have := HK1.out; omega⟩, ⟨bU_ HB⟩⟩
   ·rw [if_neg c2] at H
    have c2b0 : decide (x3_1 ≤ 96) = false := decide_eq_false c2
    clear c2;obtain rfl := Option.some.inj H
    go_wp2
    go_ret
    exact ⟨eR_, bU_ HB⟩

def spec_inParse.l0 : Nat → ByteArray → List ByteArray → Int → Int → List Int → Int → Option (List Int × Int × Bool)
 | 0, _, _, _, _, _, _ => none
 | k + 1, x0, x29, x30, x31, x538000, x538001 => if x31 < x30 then (if 0 ≤ x31 then (if x31 < (x29.length : Int) then ((spec_ntRead.f k (rdOf ByteArray.empty x29 x31)).bind fun t543 => (if x538000.length < 17592186044416 then (spec_inParse.l0 k x0 x29 x30 (wrap64 (x31 + 1)) (x538000 ++ [t543]) x538001) else (none))) else (none)) else (none)) else ((spec_inGood.f k x538000 x538001).bind fun t547 => (if t547 = true then ((spec_inText.f k x538000 x538001).bind fun t548 => (if t548.toList = x0.toList then (some (x538000, x538001, true)) else (some (([] : List Int), 0, false)))) else (some (([] : List Int), 0, false))))
def spec_inParse.f (k : Nat) (a0 : ByteArray) : Option (List Int × Int × Bool) := (spec_l1Split.f k a0 10).bind fun t528 => (if 0 < (t528.length : Int) then ((spec_l1Split.f k (rdOf ByteArray.empty t528 0) 32).bind fun t532 => (if (t532.length : Int) > 21 then (some (([] : List Int), 0, false)) else (if 0 ≤ (wrap64 ((t532.length : Int) - 1)) then (if (wrap64 ((t532.length : Int) - 1)) < (t532.length : Int) then ((spec_l1Read.f k (rdOf ByteArray.empty t532 (wrap64 ((t532.length : Int) - 1)))).bind fun t536 => (if (wrap64 ((t532.length : Int) - 1)) ≤ (t532.length : Int) then ((some (t532.take ((wrap64 ((t532.length : Int) - 1)) : Int).toNat : List ByteArray)).bind fun y538 => (spec_inParse.l0 k a0 y538 (y538.length : Int) 0 ([] : List Int) t536)) else (none))) else (none)) else (none)))) else (none))
theorem spec_inParse.mono_l : ∀ k, (∀ y0 y1 y2 y3 y4 y5, LeO (spec_inParse.l0 k y0 y1 y2 y3 y4 y5) (spec_inParse.l0 (k + 1) y0 y1 y2 y3 y4 y5))
 | 0 => fun _ _ _ _ _ _ r h => by simp [spec_inParse.l0] at h
 | k + 1 => by
  have ih0 := spec_inParse.mono_l k
  ·intro y0 y1 y2 y3 y4 y5
   unfold spec_inParse.l0
   have m0_ := @spec_inGood.mono;have m1_ := @spec_inText.mono;have m2_ := @spec_l1Read.mono;have m3_ := @spec_l1Split.mono;have m4_ := @spec_ntRead.mono;exact mo_
theorem spec_inParse.mono : ∀ a0 k, LeO (spec_inParse.f k a0) (spec_inParse.f (k + 1) a0) := by
 intro a0 k;have ih0 := spec_inParse.mono_l k
 unfold spec_inParse.f
 have m0_ := @spec_inGood.mono;have m1_ := @spec_inText.mono;have m2_ := @spec_l1Read.mono;have m3_ := @spec_l1Split.mono;have m4_ := @spec_ntRead.mono;exact mo_
def spec_inParse.T8 : Bool × List (List Nat × List Nat) := (true, [([], []), ([0], [0]), ([], []), ([2], [2]), ([3], [3]), ([1, 4, 3], [1, 4]), ([0, 1, 2, 3, 4, 5], []), ([6, 5, 5, 0, 1, 2, 3, 4, 5], [5, 6])])
def spec_inParse.B8 : List Nat := [0, 1, 0, 4, 12, 31, 63, 127]
theorem spec_inParse.tab8 : rtab .any (opsOf Tryz.f50 8) = spec_inParse.T8 := by kernel_rfl
theorem spec_inParse.bits8 : waitsOk spec_inParse.T8.2 spec_inParse.B8 = true := by kernel_rfl
set_option maxHeartbeats 8000000 in
set_option maxRecDepth 100000 in
theorem spec_inParse.calls (k : Nat) (a0 : ByteArray) (r1 : List Int) (r2 : Int) (r3 : Bool) (w : World) (h : spec_inParse.f k a0 = some (r1, r2, r3)) :
  Calls Tryz.prog 50 #[.string a0] w fun e w' => ∃ v0_ : Value, e = .returned (.tuple #[.agg #[v0_, .int .i64 r2], .bool r3]) ∧ Kd.R (Kd.int .i64) 3 w' w.heap.size (fun _ => True) v0_ r1 ∧ Below w.heap.size w w' := by
 have hu25 := Tryz.underlying25;have HB := M_ (Below.refl w.heap.size w)
 have H : ((spec_l1Split.f k a0 10).bind fun t528 => (if 0 < (t528.length : Int) then ((spec_l1Split.f k (rdOf ByteArray.empty t528 0) 32).bind fun t532 => (if (t532.length : Int) > 21 then (some (([] : List Int), 0, false)) else (if 0 ≤ (wrap64 ((t532.length : Int) - 1)) then (if (wrap64 ((t532.length : Int) - 1)) < (t532.length : Int) then ((spec_l1Read.f k (rdOf ByteArray.empty t532 (wrap64 ((t532.length : Int) - 1)))).bind fun t536 => (if (wrap64 ((t532.length : Int) - 1)) ≤ (t532.length : Int) then ((some (t532.take ((wrap64 ((t532.length : Int) - 1)) : Int).toNat : List ByteArray)).bind fun y538 => (spec_inParse.l0 k a0 y538 (y538.length : Int) 0 ([] : List Int) t536)) else (none))) else (none)) else (none)))) else (none))) = some (r1, r2, r3) := h
 clear h;replace H := Option.bind_eq_some_iff.mp H;obtain ⟨t528, A20, H⟩ := H;(try dsimp only at H);have A2 := M_ A20;clear A20
 by_cases c3 : 0 < (t528.length : Int)
 ·rw [if_pos c3] at H
  have c3b0 : decide (0 < (t528.length : Int)) = true := decide_eq_true c3
  have c3b1 : decide (0 < t528.length) = true := decide_eq_true (by omega)
  clear c3;replace H := Option.bind_eq_some_iff.mp H;obtain ⟨t532, A40, H⟩ := H;(try dsimp only at H);have A4 := M_ A40;clear A40
  by_cases c5 : (t532.length : Int) > 21
  ·rw [if_pos c5] at H
   have c5b0 : decide (21 < (t532.length : Int)) = true := decide_eq_true c5
   have c5b1 : decide (21 < t532.length) = true := decide_eq_true (by omega)
   clear c5;simp only [Option.some.injEq, Prod.mk.injEq] at H;obtain ⟨rfl, rfl, rfl⟩ := H
   go_enter Tryz.func50, Tryz.ntmps50
   go_wp2_with (first | ((with_reducible refine gate_dst (N := 2) rfl ?_); refine bx_ (N := 2) (cs := #[.slice none 0 0, .int .i64 0]) (t := 25) ?_; intro gb527 hg w6 hbox hb; have BK527 := M_ (hbox); have GW527 := M_ (gw_ HB hg); have GE527 := M_ (gw_ HB hg); replace HB := M_ (bS_ HB hb); clear hb hbox hg) | ((with_reducible refine gc_ 65 ?_); refine gM_ (some 9) Tryz.func65 #[.string a0, .int .u8 10] ?_; (with_reducible refine (spec_l1Split.calls k a0 10 t528 _ A2.out).mono ?_); rintro e w7 ⟨v529, rfl, ho0, hb⟩; refine ⟨_, rfl, ?_⟩; have HO530 := M_ (Kd.R_lower ho0 (bZ_ HB)); replace BK527 := M_ (kb_ BK527 hb); replace HB := M_ (bS_ HB hb); clear hb ho0; obtain ⟨Ao8, co8, eo8⟩ := Kd.R_slice HO530.out; subst eo8; have p531 : 0 ≤ (0 : Int) := (by omega); have q531 : 0 < (t528.length : Int) := dT_; obtain ⟨ad531, e531, hx531_0⟩ := Kd.at_string (Kd.R_reads' HO530.out).2.2 0 p531 q531; cases e531; have qi531 : (0 < t528.length) = True := eq_true (by omega); (try rw [show ((0 : Int)).toNat = 0 from rfl] at hx531_0); (try rw [Addr.add_zero'] at hx531_0); replace p531 := eq_true p531; replace q531 := eq_true q531) | ((with_reducible refine gc_ 65 ?_); refine gM_ (some 12) Tryz.func65 #[.string (rdOf ByteArray.empty t528 0), .int .u8 32] ?_; (with_reducible refine (spec_l1Split.calls k (rdOf ByteArray.empty t528 0) 32 t532 _ A4.out).mono ?_); rintro e w9 ⟨v533, rfl, ho0, hb⟩; refine ⟨_, rfl, ?_⟩; have HO534 := M_ (Kd.R_lower (Kd.R_new' ho0 (rl_ HO530)) (bZ_ HB)); replace HO530 := M_ (re_ HO530 ho0 hb); replace BK527 := M_ (kb_ BK527 hb); replace HB := M_ (bS_ HB hb); clear hb ho0; obtain ⟨Ao10, co10, eo10⟩ := Kd.R_slice HO534.out; subst eo10; obtain ⟨hcz11_0, hcz11_1, hfz11_0, hfz11_1⟩ := bq2_ BK527))
   refine bodyPost_ret (results_ct rfl _ _ gb527 25 #[.slice none 0 0, .int .i64 0] (0, 0) _ rfl (by (with_reducible repeat (first | refine kn_ ?_ _ | refine kd_ ?_ | refine ka_ ?_ _)); refine blk_put (cs := #[.slice none 0 0, .int .i64 0]) ?_ 1 _ rfl; (with_reducible repeat (first | refine kn_ ?_ _ | refine kd_ ?_ | refine ka_ ?_ _)); refine blk_put (cs := #[.slice none 0 0, .int .i64 0]) ?_ 0 _ rfl; (with_reducible repeat (first | refine kn_ ?_ _ | refine kd_ ?_ | refine ka_ ?_ _)); exact BK527.out) Tryz.underlying25 rfl (by kernel_rfl)) rfl ?_;exact ⟨_, eR_, by first | exact Kd.R_nil _ _ _ _ _ | exact Kd.N_nil _ _ _ _ _ | exact Kd.V_nil _ _ _ _ _ | exact Kd.Q_nil _ _ _ _ _ | exact Kd.S_nil _ _ _ _ _, bU_ HB⟩
  ·rw [if_neg c5] at H
   have c5b0 : decide (21 < (t532.length : Int)) = false := decide_eq_false c5
   have c5b1 : decide (21 < t532.length) = false := decide_eq_false (by omega)
   clear c5;obtain ⟨ji12, hji12⟩ : ∃ j_ : Int, (wrap64 ((t532.length : Int) - 1)) = j_ := ⟨_, rfl⟩
   replace H : (if 0 ≤ (ji12) then (if (ji12) < (t532.length : Int) then ((spec_l1Read.f k (rdOf ByteArray.empty t532 (ji12))).bind fun t536 => (if (ji12) ≤ (t532.length : Int) then ((some (t532.take ((ji12) : Int).toNat : List ByteArray)).bind fun y538 => (spec_inParse.l0 k a0 y538 (y538.length : Int) 0 ([] : List Int) t536)) else (none))) else (none)) else (none)) = some (r1, r2, r3) := by first | (rw [hji12] at H; exact H) | (simp only [hji12] at H ⊢; exact H)
   (try rw [hji12] at A2)
   (try rw [hji12] at A4)
   have hji12w : (IntKind.i64.wrap ((t532.length : Int) - 1)) = ji12 := (i64_w _).trans hji12
   by_cases c13 : 0 ≤ (ji12)
   ·rw [if_pos c13] at H
    have c13b0 : decide (0 ≤ (ji12)) = true := decide_eq_true c13
    clear c13
    by_cases c14 : (ji12) < (t532.length : Int)
    ·rw [if_pos c14] at H
     have c14b0 : decide ((ji12) < (t532.length : Int)) = true := decide_eq_true c14
     clear c14;replace H := Option.bind_eq_some_iff.mp H;obtain ⟨t536, A150, H⟩ := H;(try dsimp only at H);have A15 := M_ A150;clear A150;have c16b0 := eq_true (dT_ : 0 ≤ (ji12))
     by_cases c17 : (ji12) ≤ (t532.length : Int)
     ·rw [if_pos c17] at H
      have c17b0 := eq_true c17
      have c17b1 : decide ((ji12) ≤ (t532.length : Int)) = true := decide_eq_true c17
      clear c17;obtain ⟨y538, hy538, H⟩ := ob_ H;(try dsimp only at H);have Ny538 := M_ hy538;clear hy538
      have H' := M_ H
      clear H
      go_enter Tryz.func50, Tryz.ntmps50
      go_wp2_with (first | ((with_reducible refine gate_dst (N := 2) rfl ?_); refine bx_ (N := 2) (cs := #[.slice none 0 0, .int .i64 0]) (t := 25) ?_; intro gb527 hg w18 hbox hb; have BK527 := M_ (hbox); have GW527 := M_ (gw_ HB hg); have GE527 := M_ (gw_ HB hg); replace HB := M_ (bS_ HB hb); clear hb hbox hg) | ((with_reducible refine gc_ 65 ?_); refine gM_ (some 9) Tryz.func65 #[.string a0, .int .u8 10] ?_; (with_reducible refine (spec_l1Split.calls k a0 10 t528 _ A2.out).mono ?_); rintro e w19 ⟨v529, rfl, ho0, hb⟩; refine ⟨_, rfl, ?_⟩; have HO530 := M_ (Kd.R_lower ho0 (bZ_ HB)); replace BK527 := M_ (kb_ BK527 hb); replace HB := M_ (bS_ HB hb); clear hb ho0; obtain ⟨Ao20, co20, eo20⟩ := Kd.R_slice HO530.out; subst eo20; have p531 : 0 ≤ (0 : Int) := (by omega); have q531 : 0 < (t528.length : Int) := dT_; obtain ⟨ad531, e531, hx531_0⟩ := Kd.at_string (Kd.R_reads' HO530.out).2.2 0 p531 q531; cases e531; have qi531 : (0 < t528.length) = True := eq_true (by omega); (try rw [show ((0 : Int)).toNat = 0 from rfl] at hx531_0); (try rw [Addr.add_zero'] at hx531_0); replace p531 := eq_true p531; replace q531 := eq_true q531) | ((with_reducible refine gc_ 65 ?_); refine gM_ (some 12) Tryz.func65 #[.string (rdOf ByteArray.empty t528 0), .int .u8 32] ?_; (with_reducible refine (spec_l1Split.calls k (rdOf ByteArray.empty t528 0) 32 t532 _ A4.out).mono ?_); rintro e w21 ⟨v533, rfl, ho0, hb⟩; refine ⟨_, rfl, ?_⟩; have HO534 := M_ (Kd.R_lower (Kd.R_new' ho0 (rl_ HO530)) (bZ_ HB)); replace HO530 := M_ (re_ HO530 ho0 hb); replace BK527 := M_ (kb_ BK527 hb); replace HB := M_ (bS_ HB hb); clear hb ho0; obtain ⟨Ao22, co22, eo22⟩ := Kd.R_slice HO534.out; subst eo22; have p535 : 0 ≤ ((ji12) : Int) := dT_; have q535 : (ji12) < (t532.length : Int) := dT_; obtain ⟨ad535, e535, hx535_0⟩ := Kd.at_string (Kd.R_reads' HO534.out).2.2 (ji12) p535 q535; cases e535; replace p535 := eq_true p535; replace q535 := eq_true q535) | ((with_reducible refine gc_ 66 ?_); refine goesL_ (some 23) rfl rfl Tryz.func66 (by kernel_rfl) rfl #[.string (rdOf ByteArray.empty t532 (ji12))] rfl (by (try simp only [List.map_toArray, List.map_cons, List.map_nil]); first | done | (simp only [hji12]; rfl) | rfl | (simp only [List.length_drop, List.length_take]; rfl)) ?_; (with_reducible refine (spec_l1Read.calls k (rdOf ByteArray.empty t532 (ji12)) t536 _ A15.out).mono ?_); rintro e w' ⟨rfl, ⟨nd, rfl⟩⟩; refine ⟨_, rfl, ?_⟩; (try (rw [drewN_self w21]; generalize hq_ : World.drewN w21 _ = w21; have n0_ : Aside0 (Kd.R Kd.string 9 w21 w.heap.size (fun k_ => some k_ ≠ (.slice (some ad535) t532.length co22 : Value).ownBlock) (.slice (some ad531) t528.length co20) t528) := ⟨by rw [← hq_]; exact (rU_ (rm_ HO530.out (fun _ hk => hk.2)))⟩; have n1_ : Aside0 (Kd.R Kd.string 9 w21 w.heap.size (fun k_ => some k_ ≠ (.slice (some ad531) t528.length co20 : Value).ownBlock) (.slice (some ad535) t532.length co22) t532) := ⟨by rw [← hq_]; exact (rU_ (rm_ HO534.out (fun _ hk => hk.2)))⟩; have n2_ : Aside0 (w21.heap[gb527]? = some (.cells #[.slice none 0 0, .int .i64 0] 25 (0, 0))) := ⟨by rw [← hq_]; exact (kU_ BK527)⟩; have n3_ : Aside0 (Below w.heap.size w w21) := ⟨by rw [← hq_]; exact (bU_ HB)⟩; clear HO530 HO534 BK527 HB hq_; have HO530 := n0_; have HO534 := n1_; have BK527 := n2_; have HB := n3_; clear n0_ n1_ n2_ n3_))) | ((with_reducible refine gate_dst (N := 5) rfl ?_); refine bx_ (N := 5) (cs := #[.slice none 0 0, .int .i64 0]) (t := 25) ?_; intro gb537 hg w23 hbox hb; obtain ⟨wX, hwX1, hwX2, hwX3, hwX4⟩ : ∃ wX : World, Below wX.heap.size wX w23 ∧ wX.heap.size ≤ gb537 ∧ Below w.heap.size w wX ∧ Kd.C Kd.string wX (some ad535) t532.length t532 := ⟨_, hb, Nat.le_of_eq hg.symm, (bU_ HB), (Kd.R_reads' HO534.out).2.2⟩; have HBX := M_ hwX1; have GEX := M_ hwX2; have HBW := M_ hwX3; have HCX := M_ hwX4; clear hwX1 hwX2 hwX3 hwX4; replace HO530 := M_ (rB_ HO530 hb); replace HO534 := M_ (rB_ HO534 hb); have BK537 := M_ (hbox); have GW537 := M_ (gw_ HB hg); have GE537 := M_ (gw_ HB hg); replace HB := M_ (bS_ HB hb); have NB527_537 := M_ (nb_ BK527 hg); have NB537_527 := M_ ((by rw [hg]; exact Nat.ne_of_gt (blk_lt (kU_ BK527)) : gb537 ≠ gb527)); replace BK527 := M_ (kb_ BK527 hb); clear hb hbox hg; have hnb24 := NB537_527.out; have hnc24 := NB527_537.out; obtain ⟨hcz25_0, hcz25_1, hfz25_0, hfz25_1⟩ := bq2_ BK537) | ((with_reducible refine gate_store (t := 25) (p := 5) rfl ?_); refine store_event (t := 25) (p := 5) (v := ?vo_w26) (w1 := ((w23.setCell ⟨gb537, 0, none⟩ (.slice none 0 0)).setCell ⟨gb537, 1, none⟩ (.int .i64 t536))) ?hg ?ho ?hn ?hr ?_; (case ho => rfl); (case hg => rfl); (case hn => rfl); (case hr => first | (go_simp; done) | (go_simp; rfl)); intro w26 hw; have nX_ : Aside0 (Below wX.heap.size wX w26) := ⟨(by rw [hw]; exact bs_ (bs_ (HBX.out) GEX.out) GEX.out)⟩; have n0_ : Aside0 (Kd.R Kd.string 9 w26 w.heap.size (fun k_ => some k_ ≠ (.slice (some ad535) t532.length co22 : Value).ownBlock) (.slice (some ad531) t528.length co20) t528) := ⟨(by rw [hw]; exact (rU_ (rm_ (Kd.R_far (p := ⟨gb537, 1, none⟩) (Kd.R_far (p := ⟨gb537, 0, none⟩) (rt_ HO530.out BK537.out (by decide)) (fun _ hk => hk.2) (.slice none 0 0)) (fun _ hk => hk.2) (.int .i64 t536)) (fun _ hk => by first | exact hk.1.2 | exact hk.1 | exact hk.1.1))))⟩; have n1_ : Aside0 (Kd.R Kd.string 9 w26 w.heap.size (fun k_ => some k_ ≠ (.slice (some ad531) t528.length co20 : Value).ownBlock) (.slice (some ad535) t532.length co22) t532) := ⟨(by rw [hw]; exact (rU_ (rm_ (Kd.R_far (p := ⟨gb537, 1, none⟩) (Kd.R_far (p := ⟨gb537, 0, none⟩) (rt_ HO534.out BK537.out (by decide)) (fun _ hk => hk.2) (.slice none 0 0)) (fun _ hk => hk.2) (.int .i64 t536)) (fun _ hk => by first | exact hk.1.2 | exact hk.1 | exact hk.1.1))))⟩; have n2_ : Aside0 (w26.heap[gb527]? = some (.cells #[.slice none 0 0, .int .i64 0] 25 (0, 0))) := ⟨(by rw [hw]; exact (by (with_reducible repeat (first | refine kn_ ?_ _ | refine kd_ ?_ | refine ka_ ?_ _)); refine blk_far ?_ NB527_537.out _; (with_reducible repeat (first | refine kn_ ?_ _ | refine kd_ ?_ | refine ka_ ?_ _)); refine blk_far ?_ NB527_537.out _; (with_reducible repeat (first | refine kn_ ?_ _ | refine kd_ ?_ | refine ka_ ?_ _)); exact BK527.out))⟩; have n3_ : Aside0 (w26.heap[gb537]? = some (.cells #[.slice none 0 0, .int .i64 t536] 25 (0, 0))) := ⟨(by rw [hw]; exact (by (with_reducible repeat (first | refine kn_ ?_ _ | refine kd_ ?_ | refine ka_ ?_ _)); refine blk_put (cs := #[.slice none 0 0, .int .i64 0]) ?_ 1 _ rfl; (with_reducible repeat (first | refine kn_ ?_ _ | refine kd_ ?_ | refine ka_ ?_ _)); refine blk_put (cs := #[.slice none 0 0, .int .i64 0]) ?_ 0 _ rfl; (with_reducible repeat (first | refine kn_ ?_ _ | refine kd_ ?_ | refine ka_ ?_ _)); exact BK537.out))⟩; have n4_ : Aside0 (Below w.heap.size w w26) := ⟨(by rw [hw]; exact (bU_ HB))⟩; clear hw; clear HBX; have HBX := nX_; clear nX_; clear HO530; clear HO534; clear BK527; clear BK537; clear HB; have HO530 := n0_; have HO534 := n1_; have BK527 := n2_; have BK537 := n3_; have HB := n4_; clear n0_ n1_ n2_ n3_ n4_; have q27 : ((ji12) : Int) ≤ ((t532.length : Int) : Int) := dT_; obtain ⟨i027, hi027, _, hsz27, _⟩ := info_parts info9; have hroom27 : t532.length ≤ co22 := (Kd.R_reads' HO534.out).2.1; have hC27 : Kd.C Kd.string _ (some ad535) t532.length t532 := (Kd.R_reads' HO534.out).2.2; have hcut27 := cut_to (P := Tryz.prog) 62 9 .i64 Tryz.underlying62 hi027 (some ad535) t532.length co22 (ji12) (dT_) q27 hroom27; have hr27 := Kd.C_take (m := ((ji12) : Int).toNat) hC27 (by omega); have hy27 : y538.length = ((ji12) : Int).toNat := (by rw [Ny538.out, List.length_take]; omega); rw [← Ny538.out] at hr27; have hrX := Kd.C_take (m := ((ji12) : Int).toNat) HCX.out (by omega); rw [← Ny538.out] at hrX; have HRX := M_ hrX; clear hrX; rw [← hy27] at hcut27; have HR541 := M_ hr27; have HC541 := M_ (show y538.length ≤ co22 from by omega); clear hr27 hC27 hroom27 hi027 hsz27; have KY27 := M_ hy27; clear hy27; have KL27 := M_ (show ((ji12) : Int).toNat ≤ t532.length from by omega); replace q27 := eq_true q27))
      clear HB;have HB := HBX
      go_loopg [31] k (fun kq v31 w' => ∃ (x31_1 : Int) (x538000_1 : List Int) (u538000 : Value), v31 = .int .i64 x31_1 ∧ Aside0 (spec_inParse.l0 kq a0 y538 (y538.length : Int) x31_1 x538000_1 t536 = some (r1, r2, r3)) ∧ Aside0 (kq ≤ k) ∧ Aside0 (Kd.R (Kd.int .i64) 3 w' wX.heap.size (fun _ => True) u538000 x538000_1) ∧ Aside0 (w'.heap[gb527]? = some (.cells #[(.slice none 0 0), .int .i64 0] 25 (0, 0))) ∧ Aside0 (w'.heap[gb537]? = some (.cells #[u538000, .int .i64 t536] 25 (0, 0))) ∧ Aside0 (Below wX.heap.size wX w'))
      case atStart => exact ⟨(0), (([] : List Int)), (.slice none 0 0), eD_, H', ⟨Nat.le_refl _⟩, ⟨by first | exact Kd.R_nil _ _ _ _ _ | exact Kd.N_nil _ _ _ _ _ | exact Kd.V_nil _ _ _ _ _ | exact Kd.Q_nil _ _ _ _ _ | exact Kd.S_nil _ _ _ _ _⟩, ⟨kU_ BK527⟩, ⟨kU_ BK537⟩, ⟨bU_ HB⟩⟩
      case round =>
       clear H';(try clear qi5);obtain ⟨x31_1, x538000_1, u538000, rfl, HA, HK1, HO_538000, BK527, BK537, HB⟩ := hrel
       cases gk with
       | zero => exact absurd HA.out (by simp [spec_inParse.l0])
       | succ k1 =>
        have H := HA.out;clear HA;simp only [spec_inParse.l0] at H
        by_cases c28 : x31_1 < (y538.length : Int)
        ·rw [if_pos c28] at H
         have c28b0 : decide (x31_1 < (y538.length : Int)) = true := decide_eq_true c28
         clear c28
         by_cases c29 : 0 ≤ x31_1
         ·rw [if_pos c29] at H
          have c29b0 : decide (0 ≤ x31_1) = true := decide_eq_true c29
          clear c29
          by_cases c30 : x31_1 < (y538.length : Int)
          ·rw [if_pos c30] at H
           have c30b0 : decide (x31_1 < (y538.length : Int)) = true := decide_eq_true c30
           clear c30;replace H := Option.bind_eq_some_iff.mp H;obtain ⟨t543, A310, H⟩ := H;(try dsimp only at H);have A31 := M_ A310;clear A310
           by_cases c32 : x538000_1.length < 17592186044416
           ·rw [if_pos c32] at H
            have LMc32 := M_ c32;clear c32;obtain ⟨y544, hy544⟩ : ∃ y_ : List Int, y_ = (x538000_1 ++ [t543]) := ⟨_, rfl⟩
            replace H : (spec_inParse.l0 k1 a0 y538 (y538.length : Int) (wrap64 (x31_1 + 1)) y544 t536) = some (r1, r2, r3) := by first | (rw [hy544]; with_reducible exact H) | (have H2_ := (Option.bind_some _ _).symm.trans H; rw [hy544]; with_reducible exact H2_) | (have H2_ := (Option.bind_some _ _).symm.trans H; with_reducible exact H2_) | with_reducible exact H | (rw [hy544]; exact H) | exact H
            have Ny544 := M_ hy544;clear hy544
            have H' := M_ H
            clear H
            have p542 : 0 ≤ (x31_1 : Int) := dT_
            have q542 : x31_1 < (y538.length : Int) := dT_
            obtain ⟨ad542, e542, hx542_0⟩ := Kd.at_string HRX.out x31_1 p542 q542;obtain rfl : ad535 = ad542 := (by injection e542);replace hx542_0 := (HB.out.cell (World.block_lt_of_cell? wX _ hx542_0)).trans hx542_0;replace p542 := eq_true p542;replace q542 := eq_true q542
            try go_wp2
            replace HO_538000 := M_ (rd_ HO_538000.out); replace BK527 := M_ (kd_ BK527.out); replace BK537 := M_ (kd_ BK537.out); replace HB := M_ (b1_ HB.out);refine start_ (n := 8) (S := fun w' => w'.cell? ⟨gb537, 0, none⟩ = some (u538000) ∧ w'.cell? ⟨gb537, 1, none⟩ = some (.int .i64 t536)) (ds := [7]) #[F,F,F,F,F,F,F,F] (by kernel_rfl) rfl rfl ⟨bc0_ BK537, bc1_ BK537⟩ (fun hHeld => ?_); refine with_tabW spec_inParse.tab8 spec_inParse.bits8 (fun HT_ HW_ => ?_);generalize wr.drew = w33 at HO_538000 BK527 BK537 HB hHeld ⊢;refine pR_ (i := 0) (N := some 35) #[T,F,F,F,F,F,F,F] ?_;refine pR_ (i := 2) (N := some 37) #[T,F,T,F,F,F,F,F] ?_;refine take_ (i := 1) (N := some 36) (v := ?_) (a' := ?_) #[T,T,T,F,F,F,F,F] rfl rfl (take_ofW HT_.out HW_.out (by kernel_rfl)) (fun _ _ _ h => h) (Or.inl ⟨by rfl, ?_⟩) hHeld ?_ ?_;rotate_left
            ·rintro w' ⟨s0, s1⟩
             go_simp;with_reducible rfl
            rotate_left
            ·simp only [Act.put, la_, lb_, lc_, i64_w, i32_w]
             rfl
            refine one_ (i := 3) (N := some 38) #[T,T,T,T,F,F,F,F] rfl rfl (one_of HT_.out (by kernel_rfl)) (by decide) (fun K hK => ?_);refine gS_ Tryz.func67 #[.string (rdOf ByteArray.empty y538 x31_1)] ?_
            with_reducible refine (spec_ntRead.calls k1 (rdOf ByteArray.empty y538 x31_1) t543 _ A31.out).mono ?_
            rintro e w34 ⟨rfl, hb⟩;refine ⟨_, rfl, ?_⟩;replace HO_538000 := M_ (rB_ HO_538000 hb); replace BK527 := M_ (kb_ BK527 hb); replace BK537 := M_ (kb_ BK537 hb); replace HB := M_ (bS_ HB hb);clear hb;refine hK.out _ _ ⟨bc0_ BK537, bc1_ BK537⟩ (fun hHeld => ?_);clear hK K;refine nM_ (some 38) ?_;refine one_ (i := 4) (N := some 39) #[T,T,T,T,T,F,F,F] rfl rfl (one_of HT_.out (by kernel_rfl)) (by decide) (fun K hK => ?_);refine value_ (w1 := ?_) (v := ?_) (by rfl) rfl ?_ ?_
            rotate_left 2
            ·go_simp
             constructor
             ·rfl
             ·rfl
            refine hK.out _ _ ⟨(blk_cell (ka_ BK537.out _) 0).trans rfl, (blk_cell (ka_ BK537.out _) 1).trans rfl⟩ (fun hHeld => ?_);clear hK K;refine nM_ (some 39) ?_;refine one_ (i := 5) (N := some 40) #[T,T,T,T,T,T,F,F] rfl rfl (one_of HT_.out (by kernel_rfl)) (by decide) (fun K hK => ?_);refine Kd.R_append_step (Kd.int .i64) (w0 := wX) wX.heap.size (by rfl) (.tmp 36) (.tmp 39) 23 3 (.int .i64 0) 8 rfl Tryz.underlying23 info3 rfl (by decide) (by omega) u538000 x538000_1 t543 [.int .i64 t543] (fun _ => True) (fun _ => False) rfl rfl ?aP (fun _ hk => hk.elim) ?aF ?aO ?aB ?aS ?aL ?_
            (case aP => exact rfl)
            (case aB => exact (bU_ HB))
            (case aF => exact (fun _ _ => trivial))
            (case aO => exact (rU_ HO_538000.out))
            (case aS => exact (bZ_ HB))
            (case aL => have := LMc32.out; omega)
            intro v545 w35 ho hb hg hat
            rw [← Ny544.out] at ho
            replace BK527 := M_ (kg_ BK527 hg (Kd.R_ne HO_538000.out BK527.out (by decide))); replace BK537 := M_ (kg_ BK537 hg (Kd.R_ne HO_538000.out BK537.out (by decide))); replace HB := M_ (hb); have HO546 := M_ (ho); clear HO_538000;clear ho hb hg hat;obtain ⟨Ao36, co36, eo36⟩ := Kd.R_slice HO546.out
            (first | subst eo36 | (injection eo36 with f1_ f2_ f3_; have f4_ := f1_.symm; have f5_ := f3_.symm; clear f1_ f2_ f3_; subst f4_; subst f5_))
            refine hK.out _ _ ⟨bc0_ BK537, bc1_ BK537⟩ (fun hHeld => ?_);clear hK K;refine nM_ (some 40) ?_;refine pR_ (i := 6) (N := some 41) #[T,T,T,T,T,T,T,F] ?_;refine last_ (i := 7) (N := none) #[T,T,T,T,T,T,T,T] rfl rfl (one_of HT_.out (by kernel_rfl)) (by decide) (fun K hK => ?_)
            have hs37 : w35.cell? ⟨gb537, 0, none⟩ = some (u538000) := bc0_ BK537
            have hfs37 := bf_ BK537 0;have hns37_0 := NB527_537.out;have hms37_0 := NB537_527.out;refine skip_ (w1 := ?_) (by rfl) rfl ?_ ?_;rotate_left
            ·go_simp
             rfl
            refine hK.out _ _ ?_;clear hK K;refine done_ (done_of HT_.out (by kernel_rfl)) ?_
            try go_wp2
            go_roundg k1
            case measure => have := HK1.out; omega
            case rel => exact ⟨(wrap64 (x31_1 + 1)), (y544), (.slice Ao36 y544.length co36), eD_, H', ⟨by have := HK1.out; omega⟩, ⟨by (with_reducible repeat (first | apply ra_ | apply rn_ | apply rd_)); exact rm_ (Kd.R_far (p := ⟨gb537, 0, none⟩) (rt_ HO546.out BK537.out (by decide)) (fun _ hk => hk.2) (.slice Ao36 y544.length co36)) (fun _ hk => trivial)⟩, ⟨by (with_reducible repeat (first | refine kn_ ?_ _ | refine kd_ ?_ | refine ka_ ?_ _)); refine blk_far ?_ NB527_537.out _; (with_reducible repeat (first | refine kn_ ?_ _ | refine kd_ ?_ | refine ka_ ?_ _)); exact BK527.out⟩, ⟨by (with_reducible repeat (first | refine kn_ ?_ _ | refine kd_ ?_ | refine ka_ ?_ _)); refine blk_put (cs := #[u538000, .int .i64 t536]) ?_ 0 _ rfl; (with_reducible repeat (first | refine kn_ ?_ _ | refine kd_ ?_ | refine ka_ ?_ _)); exact BK537.out⟩, ⟨bU_ HB⟩⟩
           ·rw [if_neg c32] at H
            exact absurd H (by simp)
          ·rw [if_neg c30] at H
           exact absurd H (by simp)
         ·rw [if_neg c29] at H
          exact absurd H (by simp)
        ·rw [if_neg c28] at H
         have c28b0 : decide (x31_1 < (y538.length : Int)) = false := decide_eq_false c28
         clear c28;replace H := Option.bind_eq_some_iff.mp H;obtain ⟨t547, A380, H⟩ := H;(try dsimp only at H);have A38 := M_ A380;clear A380
         by_cases c39 : t547 = true
         ·subst c39
          rw [if_pos rfl] at H
          replace H := Option.bind_eq_some_iff.mp H;obtain ⟨t548, A400, H⟩ := H;(try dsimp only at H);have A40 := M_ A400;clear A400
          by_cases c41 : t548.toList = a0.toList
          ·rw [if_pos c41] at H
           have c41b0 : (t548.toList == a0.toList) = true := beq_iff_eq.mpr c41
           have c41b1 : (t548.toList != a0.toList) = false := bne_eq_false_iff_eq.mpr c41
           clear c41;simp only [Option.some.injEq, Prod.mk.injEq] at H;obtain ⟨rfl, rfl, rfl⟩ := H;have hnb42 := NB537_527.out;have hnc42 := NB527_537.out;obtain ⟨hcz43_0, hcz43_1, hfz43_0, hfz43_1⟩ := bq2_ BK537;obtain ⟨Ao44, co44, eo44⟩ := Kd.R_slice HO_538000.out;subst eo44
           go_wp2_with (first | ((with_reducible refine gc_ 27 ?_); refine gM_ (some 44) Tryz.func27 #[.agg #[.slice Ao44 x538000_1.length co44, .int .i64 t536]] ?_; (with_reducible refine (spec_inGood.calls k1 _ _ x538000_1 t536 true _ ?side1 ?side2 A38.out).mono ?_); (case side1 => exact cU_ (Kd.R_reads' HO_538000.out).2.2); (case side2 => exact (Kd.R_reads' HO_538000.out).2.1); rintro e w45 ⟨rfl, hb⟩; refine ⟨_, rfl, ?_⟩; replace HO_538000 := M_ (rB_ HO_538000 hb); replace BK527 := M_ (kb_ BK527 hb); replace BK537 := M_ (kb_ BK537 hb); replace HB := M_ (bS_ HB hb); clear hb; obtain ⟨hcz46_0, hcz46_1, hfz46_0, hfz46_1⟩ := bq2_ BK537) | (go_at_call 28; (with_reducible refine (spec_inText.calls k1 _ _ x538000_1 t536 t548 _ ?side1 ?side2 A40.out).mono ?_); (case side1 => exact cU_ (Kd.R_reads' HO_538000.out).2.2); (case side2 => exact (Kd.R_reads' HO_538000.out).2.1); rintro e w47 ⟨rfl, hb⟩; replace HO_538000 := M_ (rB_ HO_538000 hb); replace BK527 := M_ (kb_ BK527 hb); replace BK537 := M_ (kb_ BK537 hb); replace HB := M_ (bS_ HB hb); clear hb; obtain ⟨hcz48_0, hcz48_1, hfz48_0, hfz48_1⟩ := bq2_ BK537; obtain ⟨hcz49_0, hcz49_1, hfz49_0, hfz49_1⟩ := bq2_ BK527))
           refine bodyPost_ret (results_ct rfl _ _ gb527 25 #[.slice Ao44 x538000_1.length co44, .int .i64 t536] (0, 0) _ rfl (by (with_reducible repeat (first | refine kn_ ?_ _ | refine kd_ ?_ | refine ka_ ?_ _)); refine blk_put (cs := #[.slice Ao44 x538000_1.length co44, .int .i64 0]) ?_ 1 _ rfl; (with_reducible repeat (first | refine kn_ ?_ _ | refine kd_ ?_ | refine ka_ ?_ _)); refine blk_put (cs := #[.slice none 0 0, .int .i64 0]) ?_ 0 _ rfl; (with_reducible repeat (first | refine kn_ ?_ _ | refine kd_ ?_ | refine ka_ ?_ _)); exact BK527.out) Tryz.underlying25 rfl (by kernel_rfl)) rfl ?_;exact ⟨_, by first | rfl | (simp [errW_none, errW_some] <;> rfl) | (simp only [← hji12]; first | rfl | (simp [errW_none, errW_some] <;> rfl)) | (simp [*, errW_none, errW_some] <;> rfl), Kd.R_lower (rU_ (rm_ (Kd.R_far (p := ⟨gb527, 1, none⟩) (Kd.R_far (p := ⟨gb527, 0, none⟩) (rt_ HO_538000.out BK527.out (by decide)) (fun _ hk => hk.2) (.slice Ao44 x538000_1.length co44)) (fun _ hk => hk.2) (.int .i64 t536)) (fun _ hk => trivial))) (below_size HBW.out), by repeat (first | (with_reducible first | exact (below_step HBW.out HB.out) | apply ba_ | apply bn_ | apply b1_ | refine bs_ ?_ GE527.out | refine bs_ ?_ GE537.out) | exact (below_step HBW.out HB.out))⟩
          ·rw [if_neg c41] at H
           have c41b0 : (t548.toList == a0.toList) = false := beq_eq_false_iff_ne.mpr c41
           have c41b1 : (t548.toList != a0.toList) = true := bne_iff_ne.mpr c41
           simp only [Option.some.injEq, Prod.mk.injEq] at H;obtain ⟨rfl, rfl, rfl⟩ := H;have hnb50 := NB537_527.out;have hnc50 := NB527_537.out;obtain ⟨hcz51_0, hcz51_1, hfz51_0, hfz51_1⟩ := bq2_ BK537;obtain ⟨Ao52, co52, eo52⟩ := Kd.R_slice HO_538000.out;subst eo52
           go_wp2_with (first | ((with_reducible refine gc_ 27 ?_); refine gM_ (some 44) Tryz.func27 #[.agg #[.slice Ao52 x538000_1.length co52, .int .i64 t536]] ?_; (with_reducible refine (spec_inGood.calls k1 _ _ x538000_1 t536 true _ ?side1 ?side2 A38.out).mono ?_); (case side1 => exact cU_ (Kd.R_reads' HO_538000.out).2.2); (case side2 => exact (Kd.R_reads' HO_538000.out).2.1); rintro e w53 ⟨rfl, hb⟩; refine ⟨_, rfl, ?_⟩; replace HO_538000 := M_ (rB_ HO_538000 hb); replace BK527 := M_ (kb_ BK527 hb); replace BK537 := M_ (kb_ BK537 hb); replace HB := M_ (bS_ HB hb); clear hb; obtain ⟨hcz54_0, hcz54_1, hfz54_0, hfz54_1⟩ := bq2_ BK537) | (go_at_call 28; (with_reducible refine (spec_inText.calls k1 _ _ x538000_1 t536 t548 _ ?side1 ?side2 A40.out).mono ?_); (case side1 => exact cU_ (Kd.R_reads' HO_538000.out).2.2); (case side2 => exact (Kd.R_reads' HO_538000.out).2.1); rintro e w55 ⟨rfl, hb⟩; replace HO_538000 := M_ (rB_ HO_538000 hb); replace BK527 := M_ (kb_ BK527 hb); replace BK537 := M_ (kb_ BK537 hb); replace HB := M_ (bS_ HB hb); clear hb; obtain ⟨hcz56_0, hcz56_1, hfz56_0, hfz56_1⟩ := bq2_ BK527))
           refine bodyPost_ret (results_ct rfl _ _ gb527 25 #[.slice none 0 0, .int .i64 0] (0, 0) _ rfl (by (with_reducible repeat (first | refine kn_ ?_ _ | refine kd_ ?_ | refine ka_ ?_ _)); refine blk_put (cs := #[.slice none 0 0, .int .i64 0]) ?_ 1 _ rfl; (with_reducible repeat (first | refine kn_ ?_ _ | refine kd_ ?_ | refine ka_ ?_ _)); refine blk_put (cs := #[.slice none 0 0, .int .i64 0]) ?_ 0 _ rfl; (with_reducible repeat (first | refine kn_ ?_ _ | refine kd_ ?_ | refine ka_ ?_ _)); exact BK527.out) Tryz.underlying25 rfl (by kernel_rfl)) rfl ?_;exact ⟨_, by first | rfl | (simp [errW_none, errW_some] <;> rfl) | (simp only [← hji12]; first | rfl | (simp [errW_none, errW_some] <;> rfl)) | (simp [*, errW_none, errW_some] <;> rfl), by first | exact Kd.R_nil _ _ _ _ _ | exact Kd.N_nil _ _ _ _ _ | exact Kd.V_nil _ _ _ _ _ | exact Kd.Q_nil _ _ _ _ _ | exact Kd.S_nil _ _ _ _ _, by repeat (first | (with_reducible first | exact (below_step HBW.out HB.out) | apply ba_ | apply bn_ | apply b1_ | refine bs_ ?_ GE527.out | refine bs_ ?_ GE537.out) | exact (below_step HBW.out HB.out))⟩
         ·replace c39 := Bool.eq_false_iff.mpr c39
          subst c39
          rw [if_neg (show ¬ (false = true) by decide)] at H
          simp only [Option.some.injEq, Prod.mk.injEq] at H;obtain ⟨rfl, rfl, rfl⟩ := H;have hnb57 := NB537_527.out;have hnc57 := NB527_537.out;obtain ⟨hcz58_0, hcz58_1, hfz58_0, hfz58_1⟩ := bq2_ BK537;obtain ⟨Ao59, co59, eo59⟩ := Kd.R_slice HO_538000.out;subst eo59
          go_wp2_with (first | ((with_reducible refine gc_ 27 ?_); refine gM_ (some 44) Tryz.func27 #[.agg #[.slice Ao59 x538000_1.length co59, .int .i64 t536]] ?_; (with_reducible refine (spec_inGood.calls k1 _ _ x538000_1 t536 false _ ?side1 ?side2 A38.out).mono ?_); (case side1 => exact cU_ (Kd.R_reads' HO_538000.out).2.2); (case side2 => exact (Kd.R_reads' HO_538000.out).2.1); rintro e w60 ⟨rfl, hb⟩; refine ⟨_, rfl, ?_⟩; replace HO_538000 := M_ (rB_ HO_538000 hb); replace BK527 := M_ (kb_ BK527 hb); replace BK537 := M_ (kb_ BK537 hb); replace HB := M_ (bS_ HB hb); clear hb; obtain ⟨hcz61_0, hcz61_1, hfz61_0, hfz61_1⟩ := bq2_ BK527))
          refine bodyPost_ret (results_ct rfl _ _ gb527 25 #[.slice none 0 0, .int .i64 0] (0, 0) _ rfl (by (with_reducible repeat (first | refine kn_ ?_ _ | refine kd_ ?_ | refine ka_ ?_ _)); refine blk_put (cs := #[.slice none 0 0, .int .i64 0]) ?_ 1 _ rfl; (with_reducible repeat (first | refine kn_ ?_ _ | refine kd_ ?_ | refine ka_ ?_ _)); refine blk_put (cs := #[.slice none 0 0, .int .i64 0]) ?_ 0 _ rfl; (with_reducible repeat (first | refine kn_ ?_ _ | refine kd_ ?_ | refine ka_ ?_ _)); exact BK527.out) Tryz.underlying25 rfl (by kernel_rfl)) rfl ?_;exact ⟨_, by first | rfl | (simp [errW_none, errW_some] <;> rfl) | (simp only [← hji12]; first | rfl | (simp [errW_none, errW_some] <;> rfl)) | (simp [*, errW_none, errW_some] <;> rfl), by first | exact Kd.R_nil _ _ _ _ _ | exact Kd.N_nil _ _ _ _ _ | exact Kd.V_nil _ _ _ _ _ | exact Kd.Q_nil _ _ _ _ _ | exact Kd.S_nil _ _ _ _ _, by repeat (first | (with_reducible first | exact (below_step HBW.out HB.out) | apply ba_ | apply bn_ | apply b1_ | refine bs_ ?_ GE527.out | refine bs_ ?_ GE537.out) | exact (below_step HBW.out HB.out))⟩
     ·rw [if_neg c17] at H
      exact absurd H (by simp)
    ·rw [if_neg c14] at H
     exact absurd H (by simp)
   ·rw [if_neg c13] at H
    exact absurd H (by simp)
 ·rw [if_neg c3] at H
  exact absurd H (by simp)

def spec_ParseInstrument.f (k : Nat) (a0 : ByteArray) : Option (List Int × Int × Bool) := (spec_inParse.f k a0).bind fun bt550 => (some (bt550.1, bt550.2.1, bt550.2.2))
theorem spec_ParseInstrument.mono : ∀ a0 k, LeO (spec_ParseInstrument.f k a0) (spec_ParseInstrument.f (k + 1) a0) := by
 intro a0 k
 unfold spec_ParseInstrument.f
 have m0_ := @spec_inParse.mono;exact mo_
set_option maxHeartbeats 8000000 in
set_option maxRecDepth 100000 in
theorem spec_ParseInstrument.calls (k : Nat) (a0 : ByteArray) (r1 : List Int) (r2 : Int) (r3 : Bool) (w : World) (h : spec_ParseInstrument.f k a0 = some (r1, r2, r3)) :
  Calls Tryz.prog 20 #[.string a0] w fun e w' => ∃ v0_ : Value, e = .returned (.tuple #[.agg #[v0_, .int .i64 r2], .bool r3]) ∧ Kd.R (Kd.int .i64) 3 w' w.heap.size (fun _ => True) v0_ r1 ∧ Below w.heap.size w w' := by
 have hu25 := Tryz.underlying25;have HB := M_ (Below.refl w.heap.size w)
 have H : ((spec_inParse.f k a0).bind fun bt550 => (some (bt550.1, bt550.2.1, bt550.2.2))) = some (r1, r2, r3) := h
 clear h;replace H := Option.bind_eq_some_iff.mp H;obtain ⟨⟨t550, t553, t554⟩, A20, H⟩ := H;replace H : (some (t550, t553, t554)) = some (r1, r2, r3) := H;have A2 := M_ A20;clear A20;simp only [Option.some.injEq, Prod.mk.injEq] at H;obtain ⟨rfl, rfl, rfl⟩ := H
 go_enter Tryz.func20, Tryz.ntmps20
 go_wp2_with (first | ((with_reducible refine gate_dst (N := 2) rfl ?_); refine bx_ (N := 2) (cs := #[.slice none 0 0, .int .i64 0]) (t := 25) ?_; intro gb549 hg w3 hbox hb; have BK549 := M_ (hbox); have GW549 := M_ (gw_ HB hg); have GE549 := M_ (gw_ HB hg); replace HB := M_ (bS_ HB hb); clear hb hbox hg) | ((with_reducible refine gc_ 50 ?_); refine gM_ (some 5) Tryz.func50 #[.string a0] ?_; (with_reducible refine (spec_inParse.calls k a0 t550 t553 t554 _ A2.out).mono ?_); rintro e w4 ⟨v551, rfl, ho0, hb⟩; refine ⟨_, rfl, ?_⟩; have HO552 := M_ (Kd.R_lower ho0 (bZ_ HB)); replace BK549 := M_ (kb_ BK549 hb); replace HB := M_ (bS_ HB hb); clear hb ho0; obtain ⟨Ao5, co5, eo5⟩ := Kd.R_slice HO552.out; subst eo5; obtain ⟨hcz6_0, hcz6_1, hfz6_0, hfz6_1⟩ := bq2_ BK549))
 refine bodyPost_ret (results_ct rfl _ _ gb549 25 #[.slice Ao5 t550.length co5, .int .i64 t553] (0, 0) _ rfl (by (with_reducible repeat (first | refine kn_ ?_ _ | refine kd_ ?_ | refine ka_ ?_ _)); refine blk_put (cs := #[.slice Ao5 t550.length co5, .int .i64 0]) ?_ 1 _ rfl; (with_reducible repeat (first | refine kn_ ?_ _ | refine kd_ ?_ | refine ka_ ?_ _)); refine blk_put (cs := #[.slice none 0 0, .int .i64 0]) ?_ 0 _ rfl; (with_reducible repeat (first | refine kn_ ?_ _ | refine kd_ ?_ | refine ka_ ?_ _)); exact BK549.out) Tryz.underlying25 rfl (by kernel_rfl)) rfl ?_;exact ⟨_, eR_, by (with_reducible repeat (first | apply ra_ | apply rn_ | apply rd_)); exact rm_ (Kd.R_far (p := ⟨gb549, 1, none⟩) (Kd.R_far (p := ⟨gb549, 0, none⟩) (rt_ HO552.out BK549.out (by decide)) (fun _ hk => hk.2) (.slice Ao5 t550.length co5)) (fun _ hk => hk.2) (.int .i64 t553)) (fun _ hk => trivial), bU_ HB⟩

end Go.Proofs.YtpkklbjdhmpjnaaGreatDoor.PFnInstruments
