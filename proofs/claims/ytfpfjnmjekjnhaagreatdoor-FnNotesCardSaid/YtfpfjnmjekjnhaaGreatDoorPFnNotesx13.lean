-- by wip/xprint.py, over the kit's printer
import Derived.Test.YtfpfjnmjekjnhaaGreatDoorPFnNotesx0
import Derived.Test.YtfpfjnmjekjnhaaGreatDoorPFnNotesx2
import Derived.Test.YtfpfjnmjekjnhaaGreatDoorPFnNotesx5
import Derived.Test.YtfpfjnmjekjnhaaGreatDoorPFnNotesx6
import Derived.Test.YtfpfjnmjekjnhaaGreatDoorPFnNotesx12
namespace Go.Proofs.YtfpfjnmjekjnhaaGreatDoor.PFnNotes
open Go.RowKit Go.Proofs.YtfpfjnmjekjnhaaGreatDoorW.PrintWords Go.Proofs.YtfpfjnmjekjnhaaGreatDoorW.PrintLast Go.Proofs.YtfpfjnmjekjnhaaGreatDoorW.PrintMore
attribute [local go_sem] max2_int min2_int max_two min_two max_three min_three max_four min_four   -- for this text's walks alone
set_option linter.unusedVariables false
set_option linter.unusedSimpArgs false

mutual
def spec_l1Cur_spoilt.l0 : Nat → ByteArray → ByteArray → Int → List Int → Int → Int → Option (ByteArray × Int × Int)
 | 0, _, _, _, _, _, _ => none
 | k + 1, x1, x2, x7, x1000, x1001, x1002 => if x7 > 0 then (spec_l1Cur_spoilt.j1 k x1 x2 x7 (decide ((x1.size : Int) > 0)) x1000 x1001 x1002) else (spec_l1Cur_spoilt.j1 k x1 x2 x7 false x1000 x1001 x1002)
def spec_l1Cur_spoilt.j1 : Nat → ByteArray → ByteArray → Int → Bool → List Int → Int → Int → Option (ByteArray × Int × Int)
 | 0, _, _, _, _, _, _, _ => none
 | k + 1, x1, x2, x7, x19, x1000, x1001, x1002 => if x19 = true then ((spec_l1Cur_pick.f x1000 x1001 x1002 (x1.size : Int)).bind fun bt509 => ((spec_l1Cur_pick.f x1000 bt509.2.1 bt509.2.2 (x2.size : Int)).bind fun bt512 => (if 0 ≤ bt512.1 then (if bt512.1 < (x2.size : Int) then ((some (([bt x2 bt512.1] : List Int) : List Int)).bind fun y515 => ((spec_l1Cur_pick.f x1000 bt512.2.1 bt512.2.2 3).bind fun bt518 => (if bt518.1 = 0 then (if 0 ≤ bt509.1 then (if bt509.1 ≤ (x1.size : Int) then (if (x1.extract 0 (bt509.1 : Int).toNat).size + (strOfNums y515).size ≤ 9223372036854775807 then (if ((x1.extract 0 (bt509.1 : Int).toNat) ++ (strOfNums y515)).size + (x1.extract (bt509.1 : Int).toNat x1.size).size ≤ 9223372036854775807 then (spec_l1Cur_spoilt.l0 k (((x1.extract 0 (bt509.1 : Int).toNat) ++ (strOfNums y515)) ++ (x1.extract (bt509.1 : Int).toNat x1.size)) x2 (wrap64 (x7 - 1)) x1000 bt518.2.1 bt518.2.2) else (none)) else (none)) else (none)) else (none)) else (if bt518.1 = 1 then (if 0 ≤ bt509.1 then (if bt509.1 ≤ (x1.size : Int) then (if (x1.extract 0 (bt509.1 : Int).toNat).size + (strOfNums y515).size ≤ 9223372036854775807 then (if 0 ≤ (wrap64 (bt509.1 + 1)) then (if (wrap64 (bt509.1 + 1)) ≤ (x1.size : Int) then (if ((x1.extract 0 (bt509.1 : Int).toNat) ++ (strOfNums y515)).size + (x1.extract ((wrap64 (bt509.1 + 1)) : Int).toNat x1.size).size ≤ 9223372036854775807 then (spec_l1Cur_spoilt.l0 k (((x1.extract 0 (bt509.1 : Int).toNat) ++ (strOfNums y515)) ++ (x1.extract ((wrap64 (bt509.1 + 1)) : Int).toNat x1.size)) x2 (wrap64 (x7 - 1)) x1000 bt518.2.1 bt518.2.2) else (none)) else (none)) else (none)) else (none)) else (none)) else (none)) else (if 0 ≤ bt509.1 then (if bt509.1 ≤ (x1.size : Int) then (if 0 ≤ (wrap64 (bt509.1 + 1)) then (if (wrap64 (bt509.1 + 1)) ≤ (x1.size : Int) then (if (x1.extract 0 (bt509.1 : Int).toNat).size + (x1.extract ((wrap64 (bt509.1 + 1)) : Int).toNat x1.size).size ≤ 9223372036854775807 then (spec_l1Cur_spoilt.l0 k ((x1.extract 0 (bt509.1 : Int).toNat) ++ (x1.extract ((wrap64 (bt509.1 + 1)) : Int).toNat x1.size)) x2 (wrap64 (x7 - 1)) x1000 bt518.2.1 bt518.2.2) else (none)) else (none)) else (none)) else (none)) else (none)))))) else (none)) else (none)))) else (some (x1, x1001, x1002))
end
def spec_l1Cur_spoilt.f (k : Nat) (s0_0 : List Int) (s0_1 : Int) (s0_2 : Int) (a1 : ByteArray) (a2 : ByteArray) : Option (ByteArray × Int × Int) := (spec_l1Cur_pick.f s0_0 s0_1 s0_2 2).bind fun bt506 => (spec_l1Cur_spoilt.l0 k a1 a2 (wrap64 (1 + bt506.1)) s0_0 bt506.2.1 bt506.2.2)
set_option maxHeartbeats 4000000 in
theorem spec_l1Cur_spoilt.mono_l : ∀ k, (∀ y0 y1 y2 y3 y4 y5, LeO (spec_l1Cur_spoilt.l0 k y0 y1 y2 y3 y4 y5) (spec_l1Cur_spoilt.l0 (k + 1) y0 y1 y2 y3 y4 y5)) ∧ (∀ y0 y1 y2 y3 y4 y5 y6, LeO (spec_l1Cur_spoilt.j1 k y0 y1 y2 y3 y4 y5 y6) (spec_l1Cur_spoilt.j1 (k + 1) y0 y1 y2 y3 y4 y5 y6))
 | 0 => ⟨fun _ _ _ _ _ _ r h => by simp [spec_l1Cur_spoilt.l0] at h, fun _ _ _ _ _ _ _ r h => by simp [spec_l1Cur_spoilt.j1] at h⟩
 | k + 1 => by
  obtain ⟨ih0, ih1⟩ := spec_l1Cur_spoilt.mono_l k;refine ⟨?_, ?_⟩
  ·intro y0 y1 y2 y3 y4 y5
   unfold spec_l1Cur_spoilt.l0
   exact mo_
  ·intro y0 y1 y2 y3 y4 y5 y6
   unfold spec_l1Cur_spoilt.j1
   exact mo_
theorem spec_l1Cur_spoilt.mono : ∀ a0 a1 a2 a3 a4 k, LeO (spec_l1Cur_spoilt.f k a0 a1 a2 a3 a4) (spec_l1Cur_spoilt.f (k + 1) a0 a1 a2 a3 a4) := by
 intro a0 a1 a2 a3 a4 k;obtain ⟨ih0, ih1⟩ := spec_l1Cur_spoilt.mono_l k
 unfold spec_l1Cur_spoilt.f
 exact mo_
set_option maxHeartbeats 8000000 in
set_option maxRecDepth 100000 in
theorem spec_l1Cur_spoilt.calls (k : Nat) (g : Nat) (s0_0 : List Int) (s0_1 : Int) (s0_2 : Int) (a1 : ByteArray) (a2 : ByteArray) (r1 : ByteArray) (r2 : Int) (r3 : Int) (w0 w : World) (hI : IsS58 w0 w g s0_0 s0_1 s0_2) (hB : Below w0.heap.size w0 w) (h : spec_l1Cur_spoilt.f k s0_0 s0_1 s0_2 a1 a2 = some (r1, r2, r3)) :
  Calls Tryz.prog 61 #[.pointer (some ⟨g, 0, none⟩), .string a1, .string a2] w fun e w' => e = .returned (.string r1) ∧ IsS58 w0 w' g s0_0 r2 r3 ∧ Below w0.heap.size w0 w' ∧ KeepBut w w' g none := by
 have HI0 := M_ hI;have GEHI0_ := M_ (IsS58.ge HI0.out);have HK := M_ (KeepBut.refl w g none);have HL := M_ hB.size;clear hI;have HW0 := M_ hB.size;have HB := M_ hB;clear hB
 have H : ((spec_l1Cur_pick.f s0_0 s0_1 s0_2 2).bind fun bt506 => (spec_l1Cur_spoilt.l0 k a1 a2 (wrap64 (1 + bt506.1)) s0_0 bt506.2.1 bt506.2.2)) = some (r1, r2, r3) := h
 clear h;replace H := Option.bind_eq_some_iff.mp H;obtain ⟨⟨t506, t507, t508⟩, A40, H⟩ := H;(try dsimp only at H);have A4 := M_ A40;clear A40
 have H' := M_ H
 clear H
 go_enter Tryz.func61, Tryz.ntmps61
 go_wp2_with (first | (go_at_call 42; (with_reducible refine (spec_l1Cur_pick.calls g s0_0 s0_1 s0_2 2 t506 t507 t508 w0 _ ?side1 ?side2 A4.out).mono ?_); (case side1 => exact iU_ HI0); (case side2 => exact bU_ HB); rintro e w5 ⟨rfl, hi, hb, hk⟩; replace HK := M_ (pT_ HK hk); replace HB := M_ (hb); replace HI0 := M_ (hi); clear hb hk hi))
 repeat (go_quiet (first | (go_at_call 42; (with_reducible refine (spec_l1Cur_pick.calls g s0_0 s0_1 s0_2 2 t506 t507 t508 w0 _ ?side1 ?side2 A4.out).mono ?_); (case side1 => exact iU_ HI0); (case side2 => exact bU_ HB); rintro e w5 ⟨rfl, hi, hb, hk⟩; replace HK := M_ (pT_ HK hk); replace HB := M_ (hb); replace HI0 := M_ (hi); clear hb hk hi)); try go_wp2_with (first | (go_at_call 42; (with_reducible refine (spec_l1Cur_pick.calls g s0_0 s0_1 s0_2 2 t506 t507 t508 w0 _ ?side1 ?side2 A4.out).mono ?_); (case side1 => exact iU_ HI0); (case side2 => exact bU_ HB); rintro e w5 ⟨rfl, hi, hb, hk⟩; replace HK := M_ (pT_ HK hk); replace HB := M_ (hb); replace HI0 := M_ (hi); clear hb hk hi)))
 go_loopg [1, 7] k (fun kq v1 v7 w' => ∃ (x1_1 : ByteArray) (x7_1 : Int) (x1001_1 : Int) (x1002_1 : Int), v1 = .string x1_1 ∧ v7 = .int .i64 x7_1 ∧ Aside0 (spec_l1Cur_spoilt.l0 kq x1_1 a2 x7_1 s0_0 x1001_1 x1002_1 = some (r1, r2, r3)) ∧ Aside0 (kq ≤ k) ∧ Aside0 (IsS58 w0 w' g s0_0 x1001_1 x1002_1) ∧ Aside0 (KeepBut w w' g none) ∧ Aside0 (Below w0.heap.size w0 w'))
 case atStart => exact ⟨(a1), (wrap64 (1 + t506)), (t507), (t508), eD_, eD_, H', ⟨Nat.le_refl _⟩, ⟨iU_ HI0⟩, ⟨pU_ HK⟩, ⟨bU_ HB⟩⟩
 case round =>
  clear H';obtain ⟨x1_1, x7_1, x1001_1, x1002_1, rfl, rfl, HA, HK1, HI0, HK, HB⟩ := hrel
  cases gk with
  | zero => exact absurd HA.out (by simp [spec_l1Cur_spoilt.l0])
  | succ k1 =>
   have H := HA.out;clear HA;simp only [spec_l1Cur_spoilt.l0] at H;have HC6 := M_ H;clear H
   go_upto_region 2 with (fail)
   repeat (go_quiet (fail); go_upto_region 2 with (fail))
   go_cut [19] (fun v19 wc => ∃ (kq : Nat) (x19_5 : Bool), v19 = .bool x19_5 ∧ Aside0 (spec_l1Cur_spoilt.j1 kq x1_1 a2 x7_1 x19_5 s0_0 x1001_1 x1002_1 = some (r1, r2, r3)) ∧ Aside0 (kq ≤ k1) ∧ Aside0 (IsS58 w0 wc g s0_0 x1001_1 x1002_1) ∧ Aside0 (KeepBut w wc g none) ∧ Aside0 (Below w0.heap.size w0 wc))
   case first =>
    have H := HC6.out;clear HC6
    by_cases c7 : x7_1 > 0
    ·rw [if_pos c7] at H
     have c7b0 : decide (0 < x7_1) = true := decide_eq_true c7
     clear c7
     (first | rw [c7b0] | (simp only [i64_w, i32_w]; rw [c7b0]) | skip)
     have H' := M_ H
     clear H
     go_wp2
     repeat (go_quiet (fail); try go_wp2)
     go_meet
     case rel => exact ⟨_, (decide ((x1_1.size : Int) > 0)), eD_, H', ⟨by have := HK1.out; first | omega | exact Nat.le_refl _⟩, ⟨iU_ HI0⟩, ⟨pU_ HK⟩, ⟨bU_ HB⟩⟩
    ·rw [if_neg c7] at H
     have c7b0 : decide (0 < x7_1) = false := decide_eq_false c7
     clear c7
     (first | rw [c7b0] | (simp only [i64_w, i32_w]; rw [c7b0]) | skip)
     have H' := M_ H
     clear H
     go_wp2
     repeat (go_quiet (fail); try go_wp2)
     go_meet
     case rel => exact ⟨_, (false), eD_, H', ⟨by have := HK1.out; first | omega | exact Nat.le_refl _⟩, ⟨iU_ HI0⟩, ⟨pU_ HK⟩, ⟨bU_ HB⟩⟩
   case rest =>
    clear HC6;obtain ⟨kq, x19_5, rfl, HA, HJ5, HI0, HK, HB⟩ := hcut
    cases kq with
    | zero => exact absurd HA.out (by simp [spec_l1Cur_spoilt.j1])
    | succ kj5 =>
     have H := HA.out;clear HA;simp only [spec_l1Cur_spoilt.j1] at H
     by_cases c8 : x19_5 = true
     ·subst c8
      rw [if_pos rfl] at H
      replace H := Option.bind_eq_some_iff.mp H;obtain ⟨⟨t509, t510, t511⟩, A90, H⟩ := H;(try dsimp only at H);have A9 := M_ A90;clear A90;replace H := Option.bind_eq_some_iff.mp H;obtain ⟨⟨t512, t513, t514⟩, A100, H⟩ := H;(try dsimp only at H);have A10 := M_ A100;clear A100
      by_cases c11 : 0 ≤ t512
      ·rw [if_pos c11] at H
       have c11b0 : decide (0 ≤ t512) = true := decide_eq_true c11
       clear c11
       by_cases c12 : t512 < (a2.size : Int)
       ·rw [if_pos c12] at H
        have c12b0 : decide (t512 < (a2.size : Int)) = true := decide_eq_true c12
        clear c12;obtain ⟨y515, hy515, H⟩ := ob_ H;(try dsimp only at H);have Ny515 := M_ hy515;clear hy515;replace H := Option.bind_eq_some_iff.mp H;obtain ⟨⟨t518, t519, t520⟩, A140, H⟩ := H;(try dsimp only at H);have A14 := M_ A140;clear A140
        by_cases c15 : t518 = 0
        ·rw [if_pos c15] at H
         have c15b0 : (t518 == 0) = true := beq_iff_eq.mpr c15
         have c15b1 : (t518 != 0) = false := bne_eq_false_iff_eq.mpr c15
         clear c15
         by_cases c16 : 0 ≤ t509
         ·rw [if_pos c16] at H
          have c16b0 := eq_true c16
          have c16b1 : decide (0 ≤ t509) = true := decide_eq_true c16
          clear c16
          by_cases c17 : t509 ≤ (x1_1.size : Int)
          ·rw [if_pos c17] at H
           have c17b0 := eq_true c17
           have c17b1 : decide (t509 ≤ (x1_1.size : Int)) = true := decide_eq_true c17
           clear c17
           by_cases c18 : (x1_1.extract 0 (t509 : Int).toNat).size + (strOfNums y515).size ≤ 9223372036854775807
           ·rw [if_pos c18] at H
            have c18b0 := eq_true c18
            have c18b1 : decide ((x1_1.extract 0 (t509 : Int).toNat).size + (strOfNums y515).size ≤ 9223372036854775807) = true := decide_eq_true c18
            try have c18b2 : (9223372036854775807 < (x1_1.extract 0 (t509 : Int).toNat).size + (strOfNums y515).size) = False := eq_false (Nat.not_lt.2 c18)
            have c19b0 := eq_true (dT_ : 0 ≤ t509);have c20b0 := eq_true (dT_ : t509 ≤ (x1_1.size : Int))
            by_cases c21 : ((x1_1.extract 0 (t509 : Int).toNat) ++ (strOfNums y515)).size + (x1_1.extract (t509 : Int).toNat x1_1.size).size ≤ 9223372036854775807
            ·rw [if_pos c21] at H
             have c21b0 := eq_true c21
             have c21b1 : decide (((x1_1.extract 0 (t509 : Int).toNat) ++ (strOfNums y515)).size + (x1_1.extract (t509 : Int).toNat x1_1.size).size ≤ 9223372036854775807) = true := decide_eq_true c21
             try have c21b2 : (9223372036854775807 < ((x1_1.extract 0 (t509 : Int).toNat) ++ (strOfNums y515)).size + (x1_1.extract (t509 : Int).toNat x1_1.size).size) = False := eq_false (Nat.not_lt.2 c21)
             have c21s := c21
             try simp only [ByteArray.size_append, ByteArray.size_append] at c21s
             have c21s0 := eq_true c21s;have c21s1 := decide_eq_true c21s
             try have c21s2 := eq_false (Nat.not_lt.2 c21s)
             have H' := M_ H
             clear H
             go_wp2_with (first | (go_at_call 42; (with_reducible refine (spec_l1Cur_pick.calls g s0_0 x1001_1 x1002_1 (x1_1.size : Int) t509 t510 t511 w0 _ ?side1 ?side2 A9.out).mono ?_); (case side1 => exact iU_ HI0); (case side2 => exact bU_ HB); rintro e w22 ⟨rfl, hi, hb, hk⟩; replace HK := M_ (pT_ HK hk); replace HB := M_ (hb); replace HI0 := M_ (hi); clear hb hk hi) | (go_at_call 42; (with_reducible refine (spec_l1Cur_pick.calls g s0_0 t510 t511 (a2.size : Int) t512 t513 t514 w0 _ ?side1 ?side2 A10.out).mono ?_); (case side1 => exact iU_ HI0); (case side2 => exact bU_ HB); rintro e w23 ⟨rfl, hi, hb, hk⟩; replace HK := M_ (pT_ HK hk); replace HB := M_ (hb); replace HI0 := M_ (hi); clear hb hk hi; have p13 : 0 ≤ (t512 : Int) := dT_; have q13 : t512 < (a2.size : Int) := dT_; have hx13 := bt_at a2 t512; replace p13 := eq_true p13; replace q13 := eq_true q13) | ((with_reducible refine gate_dst (N := 32) rfl ?_); (try (refine gate_guard (by rfl) ?_; dsimp only)); refine lt_ (Kd.int .u8) 5 (N := 32) (([bt a2 t512] : List Int)) [.int .u8 (bt a2 t512)] ri_ ?_; intro v516 w24 ho25 hb hg_ hnew_; clear hg_ hnew_; replace ho25 := rN_ Ny515 ho25; have HO517 := M_ (Kd.R_lower ho25 (pS_ (w := w) (g := g) HK)); replace HI0 := M_ (IsS58.below (iU_ HI0) hb); replace HK := M_ (pB_ HK hb); replace HB := M_ (bS_ HB hb); clear hb ho25; have hcv26 := own_string (P := Tryz.prog) Tryz.underlying22 Tryz.underlying5 Tryz.underlying9 (Kd.own_of_R HO517.out)) | (go_at_call 42; (with_reducible refine (spec_l1Cur_pick.calls g s0_0 t513 t514 3 t518 t519 t520 w0 _ ?side1 ?side2 A14.out).mono ?_); (case side1 => exact iU_ HI0); (case side2 => exact bU_ HB); rintro e w27 ⟨rfl, hi, hb, hk⟩; replace HO517 := M_ (ik_ HI0 HO517 hk); replace HK := M_ (pT_ HK hk); replace HB := M_ (hb); replace HI0 := M_ (hi); clear hb hk hi))
             repeat (go_quiet (first | (go_at_call 42; (with_reducible refine (spec_l1Cur_pick.calls g s0_0 x1001_1 x1002_1 (x1_1.size : Int) t509 t510 t511 w0 _ ?side1 ?side2 A9.out).mono ?_); (case side1 => exact iU_ HI0); (case side2 => exact bU_ HB); rintro e w22 ⟨rfl, hi, hb, hk⟩; replace HK := M_ (pT_ HK hk); replace HB := M_ (hb); replace HI0 := M_ (hi); clear hb hk hi) | (go_at_call 42; (with_reducible refine (spec_l1Cur_pick.calls g s0_0 t510 t511 (a2.size : Int) t512 t513 t514 w0 _ ?side1 ?side2 A10.out).mono ?_); (case side1 => exact iU_ HI0); (case side2 => exact bU_ HB); rintro e w23 ⟨rfl, hi, hb, hk⟩; replace HK := M_ (pT_ HK hk); replace HB := M_ (hb); replace HI0 := M_ (hi); clear hb hk hi; have p13 : 0 ≤ (t512 : Int) := dT_; have q13 : t512 < (a2.size : Int) := dT_; have hx13 := bt_at a2 t512; replace p13 := eq_true p13; replace q13 := eq_true q13) | ((with_reducible refine gate_dst (N := 32) rfl ?_); (try (refine gate_guard (by rfl) ?_; dsimp only)); refine lt_ (Kd.int .u8) 5 (N := 32) (([bt a2 t512] : List Int)) [.int .u8 (bt a2 t512)] ri_ ?_; intro v516 w24 ho25 hb hg_ hnew_; clear hg_ hnew_; replace ho25 := rN_ Ny515 ho25; have HO517 := M_ (Kd.R_lower ho25 (pS_ (w := w) (g := g) HK)); replace HI0 := M_ (IsS58.below (iU_ HI0) hb); replace HK := M_ (pB_ HK hb); replace HB := M_ (bS_ HB hb); clear hb ho25; have hcv26 := own_string (P := Tryz.prog) Tryz.underlying22 Tryz.underlying5 Tryz.underlying9 (Kd.own_of_R HO517.out)) | (go_at_call 42; (with_reducible refine (spec_l1Cur_pick.calls g s0_0 t513 t514 3 t518 t519 t520 w0 _ ?side1 ?side2 A14.out).mono ?_); (case side1 => exact iU_ HI0); (case side2 => exact bU_ HB); rintro e w27 ⟨rfl, hi, hb, hk⟩; replace HO517 := M_ (ik_ HI0 HO517 hk); replace HK := M_ (pT_ HK hk); replace HB := M_ (hb); replace HI0 := M_ (hi); clear hb hk hi)); try go_wp2_with (first | (go_at_call 42; (with_reducible refine (spec_l1Cur_pick.calls g s0_0 x1001_1 x1002_1 (x1_1.size : Int) t509 t510 t511 w0 _ ?side1 ?side2 A9.out).mono ?_); (case side1 => exact iU_ HI0); (case side2 => exact bU_ HB); rintro e w22 ⟨rfl, hi, hb, hk⟩; replace HK := M_ (pT_ HK hk); replace HB := M_ (hb); replace HI0 := M_ (hi); clear hb hk hi) | (go_at_call 42; (with_reducible refine (spec_l1Cur_pick.calls g s0_0 t510 t511 (a2.size : Int) t512 t513 t514 w0 _ ?side1 ?side2 A10.out).mono ?_); (case side1 => exact iU_ HI0); (case side2 => exact bU_ HB); rintro e w23 ⟨rfl, hi, hb, hk⟩; replace HK := M_ (pT_ HK hk); replace HB := M_ (hb); replace HI0 := M_ (hi); clear hb hk hi; have p13 : 0 ≤ (t512 : Int) := dT_; have q13 : t512 < (a2.size : Int) := dT_; have hx13 := bt_at a2 t512; replace p13 := eq_true p13; replace q13 := eq_true q13) | ((with_reducible refine gate_dst (N := 32) rfl ?_); (try (refine gate_guard (by rfl) ?_; dsimp only)); refine lt_ (Kd.int .u8) 5 (N := 32) (([bt a2 t512] : List Int)) [.int .u8 (bt a2 t512)] ri_ ?_; intro v516 w24 ho25 hb hg_ hnew_; clear hg_ hnew_; replace ho25 := rN_ Ny515 ho25; have HO517 := M_ (Kd.R_lower ho25 (pS_ (w := w) (g := g) HK)); replace HI0 := M_ (IsS58.below (iU_ HI0) hb); replace HK := M_ (pB_ HK hb); replace HB := M_ (bS_ HB hb); clear hb ho25; have hcv26 := own_string (P := Tryz.prog) Tryz.underlying22 Tryz.underlying5 Tryz.underlying9 (Kd.own_of_R HO517.out)) | (go_at_call 42; (with_reducible refine (spec_l1Cur_pick.calls g s0_0 t513 t514 3 t518 t519 t520 w0 _ ?side1 ?side2 A14.out).mono ?_); (case side1 => exact iU_ HI0); (case side2 => exact bU_ HB); rintro e w27 ⟨rfl, hi, hb, hk⟩; replace HO517 := M_ (ik_ HI0 HO517 hk); replace HK := M_ (pT_ HK hk); replace HB := M_ (hb); replace HI0 := M_ (hi); clear hb hk hi)))
             go_roundg kj5
             case measure => have := HK1.out; have := HJ5.out; omega
             case rel => exact ⟨(((x1_1.extract 0 (t509 : Int).toNat) ++ (strOfNums y515)) ++ (x1_1.extract (t509 : Int).toNat x1_1.size)), (wrap64 (x7_1 - 1)), (t519), (t520), eD_, eD_, H', ⟨by have := HK1.out; have := HJ5.out; omega⟩, ⟨iU_ HI0⟩, ⟨pU_ HK⟩, ⟨bU_ HB⟩⟩
            ·rw [if_neg c21] at H
             exact absurd H (by simp)
           ·rw [if_neg c18] at H
            exact absurd H (by simp)
          ·rw [if_neg c17] at H
           exact absurd H (by simp)
         ·rw [if_neg c16] at H
          exact absurd H (by simp)
        ·rw [if_neg c15] at H
         have c15b0 : (t518 == 0) = false := beq_eq_false_iff_ne.mpr c15
         have c15b1 : (t518 != 0) = true := bne_iff_ne.mpr c15
         by_cases c28 : t518 = 1
         ·rw [if_pos c28] at H
          have c28b0 : (t518 == 1) = true := beq_iff_eq.mpr c28
          have c28b1 : (t518 != 1) = false := bne_eq_false_iff_eq.mpr c28
          clear c28
          by_cases c29 : 0 ≤ t509
          ·rw [if_pos c29] at H
           have c29b0 := eq_true c29
           have c29b1 : decide (0 ≤ t509) = true := decide_eq_true c29
           clear c29
           by_cases c30 : t509 ≤ (x1_1.size : Int)
           ·rw [if_pos c30] at H
            have c30b0 := eq_true c30
            have c30b1 : decide (t509 ≤ (x1_1.size : Int)) = true := decide_eq_true c30
            clear c30
            by_cases c31 : (x1_1.extract 0 (t509 : Int).toNat).size + (strOfNums y515).size ≤ 9223372036854775807
            ·rw [if_pos c31] at H
             have c31b0 := eq_true c31
             have c31b1 : decide ((x1_1.extract 0 (t509 : Int).toNat).size + (strOfNums y515).size ≤ 9223372036854775807) = true := decide_eq_true c31
             try have c31b2 : (9223372036854775807 < (x1_1.extract 0 (t509 : Int).toNat).size + (strOfNums y515).size) = False := eq_false (Nat.not_lt.2 c31)
             obtain ⟨ji32, hji32⟩ : ∃ j_ : Int, (wrap64 (t509 + 1)) = j_ := ⟨_, rfl⟩
             replace H : (if 0 ≤ (ji32) then (if (ji32) ≤ (x1_1.size : Int) then (if ((x1_1.extract 0 (t509 : Int).toNat) ++ (strOfNums y515)).size + (x1_1.extract ((ji32) : Int).toNat x1_1.size).size ≤ 9223372036854775807 then (spec_l1Cur_spoilt.l0 kj5 (((x1_1.extract 0 (t509 : Int).toNat) ++ (strOfNums y515)) ++ (x1_1.extract ((ji32) : Int).toNat x1_1.size)) a2 (wrap64 (x7_1 - 1)) s0_0 t519 t520) else (none)) else (none)) else (none)) = some (r1, r2, r3) := by first | (rw [hji32] at H; exact H) | (simp only [hji32] at H ⊢; exact H)
             (try rw [hji32] at A9)
             (try rw [hji32] at A10)
             (try rw [hji32] at A14)
             have hji32w : (IntKind.i64.wrap (t509 + 1)) = ji32 := (i64_w _).trans hji32
             by_cases c33 : 0 ≤ (ji32)
             ·rw [if_pos c33] at H
              have c33b0 := eq_true c33
              have c33b1 : decide (0 ≤ (ji32)) = true := decide_eq_true c33
              clear c33
              by_cases c34 : (ji32) ≤ (x1_1.size : Int)
              ·rw [if_pos c34] at H
               have c34b0 := eq_true c34
               have c34b1 : decide ((ji32) ≤ (x1_1.size : Int)) = true := decide_eq_true c34
               clear c34
               by_cases c35 : ((x1_1.extract 0 (t509 : Int).toNat) ++ (strOfNums y515)).size + (x1_1.extract ((ji32) : Int).toNat x1_1.size).size ≤ 9223372036854775807
               ·rw [if_pos c35] at H
                have c35b0 := eq_true c35
                have c35b1 : decide (((x1_1.extract 0 (t509 : Int).toNat) ++ (strOfNums y515)).size + (x1_1.extract ((ji32) : Int).toNat x1_1.size).size ≤ 9223372036854775807) = true := decide_eq_true c35
                try have c35b2 : (9223372036854775807 < ((x1_1.extract 0 (t509 : Int).toNat) ++ (strOfNums y515)).size + (x1_1.extract ((ji32) : Int).toNat x1_1.size).size) = False := eq_false (Nat.not_lt.2 c35)
                have c35s := c35
                try simp only [ByteArray.size_append, ByteArray.size_append] at c35s
                have c35s0 := eq_true c35s;have c35s1 := decide_eq_true c35s
                try have c35s2 := eq_false (Nat.not_lt.2 c35s)
                have H' := M_ H
                clear H
                go_wp2_with (first | (go_at_call 42; (with_reducible refine (spec_l1Cur_pick.calls g s0_0 x1001_1 x1002_1 (x1_1.size : Int) t509 t510 t511 w0 _ ?side1 ?side2 A9.out).mono ?_); (case side1 => exact iU_ HI0); (case side2 => exact bU_ HB); rintro e w36 ⟨rfl, hi, hb, hk⟩; replace HK := M_ (pT_ HK hk); replace HB := M_ (hb); replace HI0 := M_ (hi); clear hb hk hi) | (go_at_call 42; (with_reducible refine (spec_l1Cur_pick.calls g s0_0 t510 t511 (a2.size : Int) t512 t513 t514 w0 _ ?side1 ?side2 A10.out).mono ?_); (case side1 => exact iU_ HI0); (case side2 => exact bU_ HB); rintro e w37 ⟨rfl, hi, hb, hk⟩; replace HK := M_ (pT_ HK hk); replace HB := M_ (hb); replace HI0 := M_ (hi); clear hb hk hi; have p13 : 0 ≤ (t512 : Int) := dT_; have q13 : t512 < (a2.size : Int) := dT_; have hx13 := bt_at a2 t512; replace p13 := eq_true p13; replace q13 := eq_true q13) | ((with_reducible refine gate_dst (N := 32) rfl ?_); (try (refine gate_guard (by rfl) ?_; dsimp only)); refine lt_ (Kd.int .u8) 5 (N := 32) (([bt a2 t512] : List Int)) [.int .u8 (bt a2 t512)] ri_ ?_; intro v516 w38 ho39 hb hg_ hnew_; clear hg_ hnew_; replace ho39 := rN_ Ny515 ho39; have HO517 := M_ (Kd.R_lower ho39 (pS_ (w := w) (g := g) HK)); replace HI0 := M_ (IsS58.below (iU_ HI0) hb); replace HK := M_ (pB_ HK hb); replace HB := M_ (bS_ HB hb); clear hb ho39; have hcv40 := own_string (P := Tryz.prog) Tryz.underlying22 Tryz.underlying5 Tryz.underlying9 (Kd.own_of_R HO517.out)) | (go_at_call 42; (with_reducible refine (spec_l1Cur_pick.calls g s0_0 t513 t514 3 t518 t519 t520 w0 _ ?side1 ?side2 A14.out).mono ?_); (case side1 => exact iU_ HI0); (case side2 => exact bU_ HB); rintro e w41 ⟨rfl, hi, hb, hk⟩; replace HO517 := M_ (ik_ HI0 HO517 hk); replace HK := M_ (pT_ HK hk); replace HB := M_ (hb); replace HI0 := M_ (hi); clear hb hk hi))
                repeat (go_quiet (first | (go_at_call 42; (with_reducible refine (spec_l1Cur_pick.calls g s0_0 x1001_1 x1002_1 (x1_1.size : Int) t509 t510 t511 w0 _ ?side1 ?side2 A9.out).mono ?_); (case side1 => exact iU_ HI0); (case side2 => exact bU_ HB); rintro e w36 ⟨rfl, hi, hb, hk⟩; replace HK := M_ (pT_ HK hk); replace HB := M_ (hb); replace HI0 := M_ (hi); clear hb hk hi) | (go_at_call 42; (with_reducible refine (spec_l1Cur_pick.calls g s0_0 t510 t511 (a2.size : Int) t512 t513 t514 w0 _ ?side1 ?side2 A10.out).mono ?_); (case side1 => exact iU_ HI0); (case side2 => exact bU_ HB); rintro e w37 ⟨rfl, hi, hb, hk⟩; replace HK := M_ (pT_ HK hk); replace HB := M_ (hb); replace HI0 := M_ (hi); clear hb hk hi; have p13 : 0 ≤ (t512 : Int) := dT_; have q13 : t512 < (a2.size : Int) := dT_; have hx13 := bt_at a2 t512; replace p13 := eq_true p13; replace q13 := eq_true q13) | ((with_reducible refine gate_dst (N := 32) rfl ?_); (try (refine gate_guard (by rfl) ?_; dsimp only)); refine lt_ (Kd.int .u8) 5 (N := 32) (([bt a2 t512] : List Int)) [.int .u8 (bt a2 t512)] ri_ ?_; intro v516 w38 ho39 hb hg_ hnew_; clear hg_ hnew_; replace ho39 := rN_ Ny515 ho39; have HO517 := M_ (Kd.R_lower ho39 (pS_ (w := w) (g := g) HK)); replace HI0 := M_ (IsS58.below (iU_ HI0) hb); replace HK := M_ (pB_ HK hb); replace HB := M_ (bS_ HB hb); clear hb ho39; have hcv40 := own_string (P := Tryz.prog) Tryz.underlying22 Tryz.underlying5 Tryz.underlying9 (Kd.own_of_R HO517.out)) | (go_at_call 42; (with_reducible refine (spec_l1Cur_pick.calls g s0_0 t513 t514 3 t518 t519 t520 w0 _ ?side1 ?side2 A14.out).mono ?_); (case side1 => exact iU_ HI0); (case side2 => exact bU_ HB); rintro e w41 ⟨rfl, hi, hb, hk⟩; replace HO517 := M_ (ik_ HI0 HO517 hk); replace HK := M_ (pT_ HK hk); replace HB := M_ (hb); replace HI0 := M_ (hi); clear hb hk hi)); try go_wp2_with (first | (go_at_call 42; (with_reducible refine (spec_l1Cur_pick.calls g s0_0 x1001_1 x1002_1 (x1_1.size : Int) t509 t510 t511 w0 _ ?side1 ?side2 A9.out).mono ?_); (case side1 => exact iU_ HI0); (case side2 => exact bU_ HB); rintro e w36 ⟨rfl, hi, hb, hk⟩; replace HK := M_ (pT_ HK hk); replace HB := M_ (hb); replace HI0 := M_ (hi); clear hb hk hi) | (go_at_call 42; (with_reducible refine (spec_l1Cur_pick.calls g s0_0 t510 t511 (a2.size : Int) t512 t513 t514 w0 _ ?side1 ?side2 A10.out).mono ?_); (case side1 => exact iU_ HI0); (case side2 => exact bU_ HB); rintro e w37 ⟨rfl, hi, hb, hk⟩; replace HK := M_ (pT_ HK hk); replace HB := M_ (hb); replace HI0 := M_ (hi); clear hb hk hi; have p13 : 0 ≤ (t512 : Int) := dT_; have q13 : t512 < (a2.size : Int) := dT_; have hx13 := bt_at a2 t512; replace p13 := eq_true p13; replace q13 := eq_true q13) | ((with_reducible refine gate_dst (N := 32) rfl ?_); (try (refine gate_guard (by rfl) ?_; dsimp only)); refine lt_ (Kd.int .u8) 5 (N := 32) (([bt a2 t512] : List Int)) [.int .u8 (bt a2 t512)] ri_ ?_; intro v516 w38 ho39 hb hg_ hnew_; clear hg_ hnew_; replace ho39 := rN_ Ny515 ho39; have HO517 := M_ (Kd.R_lower ho39 (pS_ (w := w) (g := g) HK)); replace HI0 := M_ (IsS58.below (iU_ HI0) hb); replace HK := M_ (pB_ HK hb); replace HB := M_ (bS_ HB hb); clear hb ho39; have hcv40 := own_string (P := Tryz.prog) Tryz.underlying22 Tryz.underlying5 Tryz.underlying9 (Kd.own_of_R HO517.out)) | (go_at_call 42; (with_reducible refine (spec_l1Cur_pick.calls g s0_0 t513 t514 3 t518 t519 t520 w0 _ ?side1 ?side2 A14.out).mono ?_); (case side1 => exact iU_ HI0); (case side2 => exact bU_ HB); rintro e w41 ⟨rfl, hi, hb, hk⟩; replace HO517 := M_ (ik_ HI0 HO517 hk); replace HK := M_ (pT_ HK hk); replace HB := M_ (hb); replace HI0 := M_ (hi); clear hb hk hi)))
                go_roundg kj5
                case measure => have := HK1.out; have := HJ5.out; omega
                case rel => exact ⟨(((x1_1.extract 0 (t509 : Int).toNat) ++ (strOfNums y515)) ++ (x1_1.extract ((ji32) : Int).toNat x1_1.size)), (wrap64 (x7_1 - 1)), (t519), (t520), (by first | rfl | (simp; done) | (simp only [← hji32] <;> (first | rfl | simp)) | (simp [*]; done)), eD_, H', ⟨by have := HK1.out; have := HJ5.out; omega⟩, ⟨iU_ HI0⟩, ⟨pU_ HK⟩, ⟨bU_ HB⟩⟩
               ·rw [if_neg c35] at H
                exact absurd H (by simp)
              ·rw [if_neg c34] at H
               exact absurd H (by simp)
             ·rw [if_neg c33] at H
              exact absurd H (by simp)
            ·rw [if_neg c31] at H
             exact absurd H (by simp)
           ·rw [if_neg c30] at H
            exact absurd H (by simp)
          ·rw [if_neg c29] at H
           exact absurd H (by simp)
         ·rw [if_neg c28] at H
          have c28b0 : (t518 == 1) = false := beq_eq_false_iff_ne.mpr c28
          have c28b1 : (t518 != 1) = true := bne_iff_ne.mpr c28
          by_cases c42 : 0 ≤ t509
          ·rw [if_pos c42] at H
           have c42b0 := eq_true c42
           have c42b1 : decide (0 ≤ t509) = true := decide_eq_true c42
           clear c42
           by_cases c43 : t509 ≤ (x1_1.size : Int)
           ·rw [if_pos c43] at H
            have c43b0 := eq_true c43
            have c43b1 : decide (t509 ≤ (x1_1.size : Int)) = true := decide_eq_true c43
            clear c43;obtain ⟨ji44, hji44⟩ : ∃ j_ : Int, (wrap64 (t509 + 1)) = j_ := ⟨_, rfl⟩
            replace H : (if 0 ≤ (ji44) then (if (ji44) ≤ (x1_1.size : Int) then (if (x1_1.extract 0 (t509 : Int).toNat).size + (x1_1.extract ((ji44) : Int).toNat x1_1.size).size ≤ 9223372036854775807 then (spec_l1Cur_spoilt.l0 kj5 ((x1_1.extract 0 (t509 : Int).toNat) ++ (x1_1.extract ((ji44) : Int).toNat x1_1.size)) a2 (wrap64 (x7_1 - 1)) s0_0 t519 t520) else (none)) else (none)) else (none)) = some (r1, r2, r3) := by first | (rw [hji44] at H; exact H) | (simp only [hji44] at H ⊢; exact H)
            (try rw [hji44] at A9)
            (try rw [hji44] at A10)
            (try rw [hji44] at A14)
            have hji44w : (IntKind.i64.wrap (t509 + 1)) = ji44 := (i64_w _).trans hji44
            by_cases c45 : 0 ≤ (ji44)
            ·rw [if_pos c45] at H
             have c45b0 := eq_true c45
             have c45b1 : decide (0 ≤ (ji44)) = true := decide_eq_true c45
             clear c45
             by_cases c46 : (ji44) ≤ (x1_1.size : Int)
             ·rw [if_pos c46] at H
              have c46b0 := eq_true c46
              have c46b1 : decide ((ji44) ≤ (x1_1.size : Int)) = true := decide_eq_true c46
              clear c46
              by_cases c47 : (x1_1.extract 0 (t509 : Int).toNat).size + (x1_1.extract ((ji44) : Int).toNat x1_1.size).size ≤ 9223372036854775807
              ·rw [if_pos c47] at H
               have c47b0 := eq_true c47
               have c47b1 : decide ((x1_1.extract 0 (t509 : Int).toNat).size + (x1_1.extract ((ji44) : Int).toNat x1_1.size).size ≤ 9223372036854775807) = true := decide_eq_true c47
               try have c47b2 : (9223372036854775807 < (x1_1.extract 0 (t509 : Int).toNat).size + (x1_1.extract ((ji44) : Int).toNat x1_1.size).size) = False := eq_false (Nat.not_lt.2 c47)
               have H' := M_ H
               clear H
               go_wp2_with (first | (go_at_call 42; (with_reducible refine (spec_l1Cur_pick.calls g s0_0 x1001_1 x1002_1 (x1_1.size : Int) t509 t510 t511 w0 _ ?side1 ?side2 A9.out).mono ?_); (case side1 => exact iU_ HI0); (case side2 => exact bU_ HB); rintro e w48 ⟨rfl, hi, hb, hk⟩; replace HK := M_ (pT_ HK hk); replace HB := M_ (hb); replace HI0 := M_ (hi); clear hb hk hi) | (go_at_call 42; (with_reducible refine (spec_l1Cur_pick.calls g s0_0 t510 t511 (a2.size : Int) t512 t513 t514 w0 _ ?side1 ?side2 A10.out).mono ?_); (case side1 => exact iU_ HI0); (case side2 => exact bU_ HB); rintro e w49 ⟨rfl, hi, hb, hk⟩; replace HK := M_ (pT_ HK hk); replace HB := M_ (hb); replace HI0 := M_ (hi); clear hb hk hi; have p13 : 0 ≤ (t512 : Int) := dT_; have q13 : t512 < (a2.size : Int) := dT_; have hx13 := bt_at a2 t512; replace p13 := eq_true p13; replace q13 := eq_true q13) | ((with_reducible refine gate_dst (N := 32) rfl ?_); (try (refine gate_guard (by rfl) ?_; dsimp only)); refine lt_ (Kd.int .u8) 5 (N := 32) (([bt a2 t512] : List Int)) [.int .u8 (bt a2 t512)] ri_ ?_; intro v516 w50 ho51 hb hg_ hnew_; clear hg_ hnew_; replace ho51 := rN_ Ny515 ho51; have HO517 := M_ (Kd.R_lower ho51 (pS_ (w := w) (g := g) HK)); replace HI0 := M_ (IsS58.below (iU_ HI0) hb); replace HK := M_ (pB_ HK hb); replace HB := M_ (bS_ HB hb); clear hb ho51; have hcv52 := own_string (P := Tryz.prog) Tryz.underlying22 Tryz.underlying5 Tryz.underlying9 (Kd.own_of_R HO517.out)) | (go_at_call 42; (with_reducible refine (spec_l1Cur_pick.calls g s0_0 t513 t514 3 t518 t519 t520 w0 _ ?side1 ?side2 A14.out).mono ?_); (case side1 => exact iU_ HI0); (case side2 => exact bU_ HB); rintro e w53 ⟨rfl, hi, hb, hk⟩; replace HO517 := M_ (ik_ HI0 HO517 hk); replace HK := M_ (pT_ HK hk); replace HB := M_ (hb); replace HI0 := M_ (hi); clear hb hk hi))
               repeat (go_quiet (first | (go_at_call 42; (with_reducible refine (spec_l1Cur_pick.calls g s0_0 x1001_1 x1002_1 (x1_1.size : Int) t509 t510 t511 w0 _ ?side1 ?side2 A9.out).mono ?_); (case side1 => exact iU_ HI0); (case side2 => exact bU_ HB); rintro e w48 ⟨rfl, hi, hb, hk⟩; replace HK := M_ (pT_ HK hk); replace HB := M_ (hb); replace HI0 := M_ (hi); clear hb hk hi) | (go_at_call 42; (with_reducible refine (spec_l1Cur_pick.calls g s0_0 t510 t511 (a2.size : Int) t512 t513 t514 w0 _ ?side1 ?side2 A10.out).mono ?_); (case side1 => exact iU_ HI0); (case side2 => exact bU_ HB); rintro e w49 ⟨rfl, hi, hb, hk⟩; replace HK := M_ (pT_ HK hk); replace HB := M_ (hb); replace HI0 := M_ (hi); clear hb hk hi; have p13 : 0 ≤ (t512 : Int) := dT_; have q13 : t512 < (a2.size : Int) := dT_; have hx13 := bt_at a2 t512; replace p13 := eq_true p13; replace q13 := eq_true q13) | ((with_reducible refine gate_dst (N := 32) rfl ?_); (try (refine gate_guard (by rfl) ?_; dsimp only)); refine lt_ (Kd.int .u8) 5 (N := 32) (([bt a2 t512] : List Int)) [.int .u8 (bt a2 t512)] ri_ ?_; intro v516 w50 ho51 hb hg_ hnew_; clear hg_ hnew_; replace ho51 := rN_ Ny515 ho51; have HO517 := M_ (Kd.R_lower ho51 (pS_ (w := w) (g := g) HK)); replace HI0 := M_ (IsS58.below (iU_ HI0) hb); replace HK := M_ (pB_ HK hb); replace HB := M_ (bS_ HB hb); clear hb ho51; have hcv52 := own_string (P := Tryz.prog) Tryz.underlying22 Tryz.underlying5 Tryz.underlying9 (Kd.own_of_R HO517.out)) | (go_at_call 42; (with_reducible refine (spec_l1Cur_pick.calls g s0_0 t513 t514 3 t518 t519 t520 w0 _ ?side1 ?side2 A14.out).mono ?_); (case side1 => exact iU_ HI0); (case side2 => exact bU_ HB); rintro e w53 ⟨rfl, hi, hb, hk⟩; replace HO517 := M_ (ik_ HI0 HO517 hk); replace HK := M_ (pT_ HK hk); replace HB := M_ (hb); replace HI0 := M_ (hi); clear hb hk hi)); try go_wp2_with (first | (go_at_call 42; (with_reducible refine (spec_l1Cur_pick.calls g s0_0 x1001_1 x1002_1 (x1_1.size : Int) t509 t510 t511 w0 _ ?side1 ?side2 A9.out).mono ?_); (case side1 => exact iU_ HI0); (case side2 => exact bU_ HB); rintro e w48 ⟨rfl, hi, hb, hk⟩; replace HK := M_ (pT_ HK hk); replace HB := M_ (hb); replace HI0 := M_ (hi); clear hb hk hi) | (go_at_call 42; (with_reducible refine (spec_l1Cur_pick.calls g s0_0 t510 t511 (a2.size : Int) t512 t513 t514 w0 _ ?side1 ?side2 A10.out).mono ?_); (case side1 => exact iU_ HI0); (case side2 => exact bU_ HB); rintro e w49 ⟨rfl, hi, hb, hk⟩; replace HK := M_ (pT_ HK hk); replace HB := M_ (hb); replace HI0 := M_ (hi); clear hb hk hi; have p13 : 0 ≤ (t512 : Int) := dT_; have q13 : t512 < (a2.size : Int) := dT_; have hx13 := bt_at a2 t512; replace p13 := eq_true p13; replace q13 := eq_true q13) | ((with_reducible refine gate_dst (N := 32) rfl ?_); (try (refine gate_guard (by rfl) ?_; dsimp only)); refine lt_ (Kd.int .u8) 5 (N := 32) (([bt a2 t512] : List Int)) [.int .u8 (bt a2 t512)] ri_ ?_; intro v516 w50 ho51 hb hg_ hnew_; clear hg_ hnew_; replace ho51 := rN_ Ny515 ho51; have HO517 := M_ (Kd.R_lower ho51 (pS_ (w := w) (g := g) HK)); replace HI0 := M_ (IsS58.below (iU_ HI0) hb); replace HK := M_ (pB_ HK hb); replace HB := M_ (bS_ HB hb); clear hb ho51; have hcv52 := own_string (P := Tryz.prog) Tryz.underlying22 Tryz.underlying5 Tryz.underlying9 (Kd.own_of_R HO517.out)) | (go_at_call 42; (with_reducible refine (spec_l1Cur_pick.calls g s0_0 t513 t514 3 t518 t519 t520 w0 _ ?side1 ?side2 A14.out).mono ?_); (case side1 => exact iU_ HI0); (case side2 => exact bU_ HB); rintro e w53 ⟨rfl, hi, hb, hk⟩; replace HO517 := M_ (ik_ HI0 HO517 hk); replace HK := M_ (pT_ HK hk); replace HB := M_ (hb); replace HI0 := M_ (hi); clear hb hk hi)))
               go_roundg kj5
               case measure => have := HK1.out; have := HJ5.out; omega
               case rel => exact ⟨((x1_1.extract 0 (t509 : Int).toNat) ++ (x1_1.extract ((ji44) : Int).toNat x1_1.size)), (wrap64 (x7_1 - 1)), (t519), (t520), (by first | rfl | (simp; done) | (simp only [← hji44] <;> (first | rfl | simp)) | (simp [*]; done)), eD_, H', ⟨by have := HK1.out; have := HJ5.out; omega⟩, ⟨iU_ HI0⟩, ⟨pU_ HK⟩, ⟨bU_ HB⟩⟩
              ·rw [if_neg c47] at H
               exact absurd H (by simp)
             ·rw [if_neg c46] at H
              exact absurd H (by simp)
            ·rw [if_neg c45] at H
             exact absurd H (by simp)
           ·rw [if_neg c43] at H
            exact absurd H (by simp)
          ·rw [if_neg c42] at H
           exact absurd H (by simp)
       ·rw [if_neg c12] at H
        exact absurd H (by simp)
      ·rw [if_neg c11] at H
       exact absurd H (by simp)
     ·replace c8 := Bool.eq_false_iff.mpr c8
      subst c8
      rw [if_neg (show ¬ (false = true) by decide)] at H
      simp only [Option.some.injEq, Prod.mk.injEq] at H;obtain ⟨rfl, rfl, rfl⟩ := H
      go_wp2
      repeat (go_quiet (fail); try go_wp2)
      go_ret
      exact ⟨eR_, by (try simp only [show IntKind.u64.wrap 0 = 0 from rfl, Int.add_zero]); exact iU_ HI0, bU_ HB, pU_ HK⟩
def spec_DrawParseScore.f (k : Nat) (l0 : List Int) : Option (ByteArray) := (newCur.f l0).bind fun bt521 => ((spec_l1Cur_score.f k bt521.1 bt521.2.1 bt521.2.2).bind fun bt525 => ((spec_ntText.f k bt525.1).bind fun t530 => ((spec_l1Cur_one.f bt521.1 bt525.2.1 bt525.2.2 3).bind fun bt531 => (if bt531.1 = true then ((spec_l1Cur_spoilt.f k bt521.1 bt531.2.1 bt531.2.2 t530 (⟨#[99, 35, 100, 48, 49, 32, 10]⟩ : ByteArray)).bind fun bt534 => (some bt534.1)) else (some t530)))))
theorem spec_DrawParseScore.mono : ∀ a0 k, LeO (spec_DrawParseScore.f k a0) (spec_DrawParseScore.f (k + 1) a0) := by
 intro a0 k
 unfold spec_DrawParseScore.f
 have m0_ := @spec_l1Cur_score.mono;have m1_ := @spec_l1Cur_spoilt.mono;have m2_ := @spec_ntText.mono;exact mo_
set_option maxHeartbeats 8000000 in
set_option maxRecDepth 100000 in
theorem spec_DrawParseScore.calls (k : Nat) (A0 : Option Addr) (c0 : Nat) (l0 : List Int) (r : ByteArray) (w : World) (hr0 : Kd.C (Kd.int .u8) w A0 l0.length l0) (hc0 : l0.length ≤ c0) (h : spec_DrawParseScore.f k l0 = some r) :
  Calls Tryz.prog 21 #[.slice A0 l0.length c0] w fun e w' => e = .returned (.string r) ∧ Below w.heap.size w w' := by
 have HR0 := M_ hr0;have HC0 := M_ hc0;clear hr0 hc0;have HB := M_ (Below.refl w.heap.size w)
 have H : ((newCur.f l0).bind fun bt521 => ((spec_l1Cur_score.f k bt521.1 bt521.2.1 bt521.2.2).bind fun bt525 => ((spec_ntText.f k bt525.1).bind fun t530 => ((spec_l1Cur_one.f bt521.1 bt525.2.1 bt525.2.2 3).bind fun bt531 => (if bt531.1 = true then ((spec_l1Cur_spoilt.f k bt521.1 bt531.2.1 bt531.2.2 t530 (⟨#[99, 35, 100, 48, 49, 32, 10]⟩ : ByteArray)).bind fun bt534 => (some bt534.1)) else (some t530)))))) = some r := h
 clear h;replace H := Option.bind_eq_some_iff.mp H;obtain ⟨⟨t521, t522, t523⟩, A20, H⟩ := H;(try dsimp only at H);have A2 := M_ A20;clear A20;replace H := Option.bind_eq_some_iff.mp H;obtain ⟨⟨t525, t528, t529⟩, A30, H⟩ := H;(try dsimp only at H);have A3 := M_ A30;clear A30;replace H := Option.bind_eq_some_iff.mp H;obtain ⟨t530, A40, H⟩ := H;(try dsimp only at H);have A4 := M_ A40;clear A40;replace H := Option.bind_eq_some_iff.mp H;obtain ⟨⟨t531, t532, t533⟩, A50, H⟩ := H;(try dsimp only at H);have A5 := M_ A50;clear A50
 by_cases c6 : t531 = true
 focus
  subst c6
  rw [if_pos rfl] at H
  replace H := Option.bind_eq_some_iff.mp H;obtain ⟨⟨t534, t535, t536⟩, A70, H⟩ := H;replace H : (some t534) = some r := H;have A7 := M_ A70;clear A70;obtain rfl := Option.some.inj H
 rotate_left
 focus
  replace c6 := Bool.eq_false_iff.mpr c6
  subst c6
  rw [if_neg (show ¬ (false = true) by decide)] at H
  obtain rfl := Option.some.inj H
 rotate_left
 all_goals
  go_enter Tryz.func21, Tryz.ntmps21
  go_wp2_with (first | ((with_reducible refine gate_dst (N := 7) rfl ?_); refine bx_ (N := 7) (cs := #[.slice A0 l0.length c0, .int .i64 0, .int .u64 0]) (t := 58) ?_; intro g524 hg w8 hbox hb2; have hb := bS_ HB hb2; have hi := newCur_is A2.out (by exact HR0.out) hbox (by rw [hg]; exact (bZ_ HB)); clear hg hbox; replace HB := M_ (hb); have HI524 := M_ (hi); clear hb) | ((with_reducible refine gc_ 59 ?_); refine gM_ (some 9) Tryz.func59 #[.pointer (some ⟨g524, 0, none⟩)] ?_; (with_reducible refine (spec_l1Cur_score.calls k g524 t521 t522 t523 t525 t528 t529 w _ ?side1 ?side2 A3.out).mono ?_); (case side1 => exact iU_ HI524); (case side2 => exact bU_ HB); rintro e w9 ⟨v526, rfl, ho0, hi, hb, hk⟩; refine ⟨_, rfl, ?_⟩; have HO527 := M_ (Kd.R_lower ho0 (bZ_ HB)); replace HB := M_ (hb); replace HI524 := M_ (hi); clear hb hk hi ho0; obtain ⟨Ao10, co10, eo10⟩ := Kd.R_slice HO527.out; subst eo10) | ((with_reducible refine gc_ 58 ?_); refine gM_ (some 10) Tryz.func58 #[.slice Ao10 t525.length co10] ?_; (with_reducible refine (spec_ntText.calls k _ _ t525 t530 _ ?side1 ?side2 A4.out).mono ?_); (case side1 => exact cU_ (Kd.R_reads' HO527.out).2.2); (case side2 => exact (Kd.R_reads' HO527.out).2.1); rintro e w11 ⟨rfl, hb⟩; refine ⟨_, rfl, ?_⟩; replace HO527 := M_ (rB_ HO527 hb); replace HI524 := M_ (IsS58.below (iU_ HI524) hb); replace HB := M_ (bS_ HB hb); clear hb) | ((with_reducible refine gc_ 60 ?_); refine gM_ (some 12) Tryz.func60 #[.pointer (some ⟨g524, 0, none⟩), .int .i64 3] ?_; (with_reducible refine (spec_l1Cur_one.calls g524 t521 t528 t529 3 _ t532 t533 w _ ?side1 ?side2 A5.out).mono ?_); (case side1 => exact iU_ HI524); (case side2 => exact bU_ HB); rintro e w12 ⟨rfl, hi, hb, hk⟩; refine ⟨_, rfl, ?_⟩; replace HO527 := M_ (ik_ HI524 HO527 hk); replace HB := M_ (hb); replace HI524 := M_ (hi); clear hb hk hi) | ((with_reducible refine gc_ 61 ?_); refine gM_ (some 15) Tryz.func61 #[.pointer (some ⟨g524, 0, none⟩), .string t530, .string (⟨#[99, 35, 100, 48, 49, 32, 10]⟩ : ByteArray)] ?_; (with_reducible refine (spec_l1Cur_spoilt.calls k g524 t521 t532 t533 t530 (⟨#[99, 35, 100, 48, 49, 32, 10]⟩ : ByteArray) t534 t535 t536 w _ ?side1 ?side2 A7.out).mono ?_); (case side1 => exact iU_ HI524); (case side2 => exact bU_ HB); rintro e w13 ⟨rfl, hi, hb, hk⟩; refine ⟨_, rfl, ?_⟩; replace HO527 := M_ (ik_ HI524 HO527 hk); replace HB := M_ (hb); replace HI524 := M_ (hi); clear hb hk hi))
  go_ret
  exact ⟨eR_, bU_ HB⟩
def stringslite_HasSuffix.f (a0 : ByteArray) (a1 : ByteArray) : Option (Bool) := if (a0.size : Int) ≥ (a1.size : Int) then (if 0 ≤ (wrap64 ((a0.size : Int) - (a1.size : Int))) then (if (wrap64 ((a0.size : Int) - (a1.size : Int))) ≤ (a0.size : Int) then (some ((a0.extract ((wrap64 ((a0.size : Int) - (a1.size : Int))) : Int).toNat a0.size).toList == a1.toList)) else (none)) else (none)) else (some false)
set_option maxHeartbeats 8000000 in
set_option maxRecDepth 100000 in
theorem stringslite_HasSuffix.calls (a0 : ByteArray) (a1 : ByteArray) (r : Bool) (w : World) (h : stringslite_HasSuffix.f a0 a1 = some r) :
  Calls Tryz.prog 104 #[.string a0, .string a1] w fun e w' => e = .returned (.bool r) ∧ Drawn0 w w' := by
 have H : (if (a0.size : Int) ≥ (a1.size : Int) then (if 0 ≤ (wrap64 ((a0.size : Int) - (a1.size : Int))) then (if (wrap64 ((a0.size : Int) - (a1.size : Int))) ≤ (a0.size : Int) then (some ((a0.extract ((wrap64 ((a0.size : Int) - (a1.size : Int))) : Int).toNat a0.size).toList == a1.toList)) else (none)) else (none)) else (some false)) = some r := h
 clear h
 by_cases c3 : (a0.size : Int) ≥ (a1.size : Int)
 ·rw [if_pos c3] at H
  have c3b0 : decide ((a1.size : Int) ≤ (a0.size : Int)) = true := decide_eq_true c3
  have c3b1 : decide (a1.size ≤ a0.size) = true := decide_eq_true (Int.ofNat_le.mp c3)
  clear c3;obtain ⟨ji4, hji4⟩ : ∃ j_ : Int, (wrap64 ((a0.size : Int) - (a1.size : Int))) = j_ := ⟨_, rfl⟩
  replace H : (if 0 ≤ (ji4) then (if (ji4) ≤ (a0.size : Int) then (some ((a0.extract ((ji4) : Int).toNat a0.size).toList == a1.toList)) else (none)) else (none)) = some r := by first | (rw [hji4] at H; exact H) | (simp only [hji4] at H ⊢; exact H)
  have hji4w : (IntKind.i64.wrap ((a0.size : Int) - (a1.size : Int))) = ji4 := (i64_w _).trans hji4
  by_cases c5 : 0 ≤ (ji4)
  ·rw [if_pos c5] at H
   have c5b0 := eq_true c5
   have c5b1 : decide (0 ≤ (ji4)) = true := decide_eq_true c5
   clear c5
   by_cases c6 : (ji4) ≤ (a0.size : Int)
   ·rw [if_pos c6] at H
    have c6b0 := eq_true c6
    have c6b1 : decide ((ji4) ≤ (a0.size : Int)) = true := decide_eq_true c6
    clear c6;obtain rfl := Option.some.inj H
    go_enter Tryz.func104, Tryz.ntmps104
    go_wp2
    go_ret
    exact ⟨by first | rfl | (simp; done) | (simp only [← hji4] <;> (first | rfl | simp)) | (simp [*]; done), by repeat (first | exact Drawn0.refl _ | apply Drawn0.step)⟩
   ·rw [if_neg c6] at H
    exact absurd H (by simp)
  ·rw [if_neg c5] at H
   exact absurd H (by simp)
 ·rw [if_neg c3] at H
  have c3b0 : decide ((a1.size : Int) ≤ (a0.size : Int)) = false := decide_eq_false c3
  have c3b1 : decide (a1.size ≤ a0.size) = false := decide_eq_false (fun h => c3 (Int.ofNat_le.mpr h))
  clear c3;obtain rfl := Option.some.inj H
  go_enter Tryz.func104, Tryz.ntmps104
  go_wp2
  go_ret
  exact ⟨by first | rfl | (simp; done) | (simp [*]; done), by repeat (first | exact Drawn0.refl _ | apply Drawn0.step)⟩
def strings_HasSuffix.f (a0 : ByteArray) (a1 : ByteArray) : Option (Bool) := (stringslite_HasSuffix.f a0 a1).bind fun t537 => (some t537)
set_option maxHeartbeats 8000000 in
set_option maxRecDepth 100000 in
theorem strings_HasSuffix.calls (a0 : ByteArray) (a1 : ByteArray) (r : Bool) (w : World) (h : strings_HasSuffix.f a0 a1 = some r) :
  Calls Tryz.prog 88 #[.string a0, .string a1] w fun e w' => e = .returned (.bool r) ∧ Drawn0 w w' := by
 have H : ((stringslite_HasSuffix.f a0 a1).bind fun t537 => (some t537)) = some r := h
 clear h;replace H := Option.bind_eq_some_iff.mp H;obtain ⟨t537, A30, H⟩ := H;replace H : (some t537) = some r := H;have A3 := M_ A30;clear A30;obtain rfl := Option.some.inj H
 go_enter Tryz.func88, Tryz.ntmps88
 go_wp2_with (first | ((with_reducible refine gc_ 104 ?_); refine gM_ (some 7) Tryz.func104 #[.string a0, .string a1] ?_; (with_reducible refine (stringslite_HasSuffix.calls a0 a1 t537 _ A3.out).mono ?_); rintro e w' ⟨rfl, ⟨nd, rfl⟩⟩; refine ⟨_, rfl, ?_⟩))
 go_ret
 exact ⟨by first | rfl | (simp; done) | (simp [*]; done), by repeat (first | exact Drawn0.refl _ | apply Drawn0.step)⟩
-- NOT PRINTED: function 151 (utf8_RuneCountInString)

-- NOT PRINTED: function 163 (utf8_decodeRuneInStringSlow)

-- NOT PRINTED: function 152 (utf8_DecodeRuneInString)

-- NOT PRINTED: function 132 (strings_explode)

-- NOT PRINTED: function 154 (bytealg_IndexByteString)

-- NOT PRINTED: function 135 (stringslite_IndexByte)

-- NOT PRINTED: function 136 (bytealg_IndexString)

-- NOT PRINTED: function 137 (bytealg_Cutover)

-- NOT PRINTED: function 155 (bytealg_hashStr_string)

-- NOT PRINTED: function 138 (bytealg_IndexRabinKarp_string)

-- NOT PRINTED: function 106 (stringslite_Index)

-- NOT PRINTED: function 134 (strings_Index)

-- NOT PRINTED: function 153 (bytealg_CountString)

-- NOT PRINTED: function 133 (strings_Count)

-- NOT PRINTED: function 105 (strings_genSplit)

-- XNAME strings_Split strings_Split
-- XSHELF
-- XSPL
theorem someInt_ {w w' : World} {a : Addr} {kk : IntKind} (h : ∃ m, w.cell? a = some (.int kk m)) (hb : Below w.heap.size w w') : ∃ m, w'.cell? a = some (.int kk m) := by
 obtain ⟨m, hm⟩ := h;exact ⟨m, (hb.cell (World.block_lt_of_cell? w _ hm)).trans hm⟩
def strings_Split.f (a0 : ByteArray) (a1 : ByteArray) : Option (List ByteArray) := if 1 ≤ a1.size then (if a0.size < 4294967281 then some (Lib.splitB a1 0 (Lib.countB a0 a1) a0) else none) else none
theorem strings_Split.calls (a0 : ByteArray) (a1 : ByteArray) (r : List ByteArray) (w : World) (hM : ∃ m, w.cell? ⟨0, 0, none⟩ = some (.int .i64 m)) (h : strings_Split.f a0 a1 = some r) :
  Calls Tryz.prog 89 #[.string a0, .string a1] w fun e w' => ∃ v0_ : Value, e = .returned (v0_) ∧ Kd.R Kd.string 9 w' w.heap.size (fun _ => True) v0_ r ∧ Below w.heap.size w w' := by
 unfold strings_Split.f at h
 by_cases h0 : 1 ≤ a1.size
 case neg => rw [if_neg h0] at h; cases h
 by_cases h1 : a0.size < 4294967281
 case neg => rw [if_pos h0, if_neg h1] at h; cases h
 rw [if_pos h0, if_pos h1] at h
 obtain rfl := Option.some.inj h;clear h;obtain ⟨m, hm⟩ := hM;refine (Tryz.strings_Split a0 a1 m w h1 hm h0).mono ?_;rintro e w' ⟨rfl, rfl⟩;have hl := Lib.splitB_all a1 h0 0 (Lib.countB a0 a1) a0 rfl;have hle := Lib.countB_le a1 h0 a0.size a0 (Nat.le_refl _);refine ⟨_, rfl, ?_, ba_ (Below.refl _ _) _⟩;have ho := World.ownsRow_lit (e := 9) (size := 1) (base := w.heap.size) w ((Lib.splitB a1 0 (Lib.countB a0 a1) a0).map Value.string).toArray (Lib.countB a0 a1 + 1) (Nat.le_refl _) (by unfold maxLen; omega) (by simp [hl])
 rw [← hl] at ho ⊢
 exact Kd.R_of_own (by simpa [encs] using ho) (fun _ _ => trivial)
def impl_textLines.f (a0 : ByteArray) : Option (List ByteArray × Bool) := if a0.toList = ([] : List UInt8) then (some (([] : List ByteArray), true)) else ((strings_HasSuffix.f a0 (⟨#[10]⟩ : ByteArray)).bind fun t538 => (if t538 = true then (if 0 ≤ (wrap64 ((a0.size : Int) - 1)) then (if (wrap64 ((a0.size : Int) - 1)) ≤ (a0.size : Int) then ((strings_Split.f (a0.extract 0 ((wrap64 ((a0.size : Int) - 1)) : Int).toNat) (⟨#[10]⟩ : ByteArray)).bind fun t539 => (some (t539, true))) else (none)) else (none)) else (some (([] : List ByteArray), false))))
set_option maxHeartbeats 8000000 in
set_option maxRecDepth 100000 in
theorem impl_textLines.calls (a0 : ByteArray) (r1 : List ByteArray) (r2 : Bool) (w : World) (hM : ∃ m, w.cell? ⟨0, 0, none⟩ = some (.int .i64 m)) (h : impl_textLines.f a0 = some (r1, r2)) :
  Calls Tryz.prog 62 #[.string a0] w fun e w' => ∃ v0_ : Value, e = .returned (.tuple #[v0_, .bool r2]) ∧ Kd.R Kd.string 9 w' w.heap.size (fun _ => True) v0_ r1 ∧ Below w.heap.size w w' := by
 have HM := M_ hM;clear hM;have HB := M_ (Below.refl w.heap.size w)
 have H : (if a0.toList = ([] : List UInt8) then (some (([] : List ByteArray), true)) else ((strings_HasSuffix.f a0 (⟨#[10]⟩ : ByteArray)).bind fun t538 => (if t538 = true then (if 0 ≤ (wrap64 ((a0.size : Int) - 1)) then (if (wrap64 ((a0.size : Int) - 1)) ≤ (a0.size : Int) then ((strings_Split.f (a0.extract 0 ((wrap64 ((a0.size : Int) - 1)) : Int).toNat) (⟨#[10]⟩ : ByteArray)).bind fun t539 => (some (t539, true))) else (none)) else (none)) else (some (([] : List ByteArray), false))))) = some (r1, r2) := h
 clear h
 by_cases c2 : a0.toList = ([] : List UInt8)
 ·rw [if_pos c2] at H
  have c2b0 : (a0.toList == ([] : List UInt8)) = true := beq_iff_eq.mpr c2
  have c2b1 : (a0.toList != ([] : List UInt8)) = false := bne_eq_false_iff_eq.mpr c2
  clear c2;simp only [Option.some.injEq, Prod.mk.injEq] at H;obtain ⟨rfl, rfl⟩ := H
  go_enter Tryz.func62, Tryz.ntmps62
  go_wp2
  go_ret2
  exact ⟨_, eR_, by first | exact Kd.R_nil _ _ _ _ _ | exact Kd.N_nil _ _ _ _ _ | exact Kd.V_nil _ _ _ _ _ | exact Kd.Q_nil _ _ _ _ _ | exact Kd.S_nil _ _ _ _ _, bU_ HB⟩
 ·rw [if_neg c2] at H
  have c2b0 : (a0.toList == ([] : List UInt8)) = false := beq_eq_false_iff_ne.mpr c2
  have c2b1 : (a0.toList != ([] : List UInt8)) = true := bne_iff_ne.mpr c2
  replace H := Option.bind_eq_some_iff.mp H;obtain ⟨t538, A30, H⟩ := H;(try dsimp only at H);have A3 := M_ A30;clear A30
  by_cases c4 : t538 = true
  ·subst c4
   rw [if_pos rfl] at H
   obtain ⟨ji5, hji5⟩ : ∃ j_ : Int, (wrap64 ((a0.size : Int) - 1)) = j_ := ⟨_, rfl⟩
   replace H : (if 0 ≤ (ji5) then (if (ji5) ≤ (a0.size : Int) then ((strings_Split.f (a0.extract 0 ((ji5) : Int).toNat) (⟨#[10]⟩ : ByteArray)).bind fun t539 => (some (t539, true))) else (none)) else (none)) = some (r1, r2) := by first | (rw [hji5] at H; exact H) | (simp only [hji5] at H ⊢; exact H)
   (try rw [hji5] at A3)
   have hji5w : (IntKind.i64.wrap ((a0.size : Int) - 1)) = ji5 := (i64_w _).trans hji5
   by_cases c6 : 0 ≤ (ji5)
   ·rw [if_pos c6] at H
    have c6b0 := eq_true c6
    have c6b1 : decide (0 ≤ (ji5)) = true := decide_eq_true c6
    clear c6
    by_cases c7 : (ji5) ≤ (a0.size : Int)
    ·rw [if_pos c7] at H
     have c7b0 := eq_true c7
     have c7b1 : decide ((ji5) ≤ (a0.size : Int)) = true := decide_eq_true c7
     clear c7;replace H := Option.bind_eq_some_iff.mp H;obtain ⟨t539, A80, H⟩ := H;replace H : (some (t539, true)) = some (r1, r2) := H;have A8 := M_ A80;clear A80;simp only [Option.some.injEq, Prod.mk.injEq] at H;obtain ⟨rfl, rfl⟩ := H
     go_enter Tryz.func62, Tryz.ntmps62
     go_wp2_with (first | ((with_reducible refine gc_ 88 ?_); refine gM_ (some 7) Tryz.func88 #[.string a0, .string (⟨#[10]⟩ : ByteArray)] ?_; (with_reducible refine (strings_HasSuffix.calls a0 (⟨#[10]⟩ : ByteArray) true _ A3.out).mono ?_); rintro e w' ⟨rfl, ⟨nd, rfl⟩⟩; refine ⟨_, rfl, ?_⟩) | ((with_reducible refine gc_ 89 ?_); refine goesL_ (some 14) rfl rfl Tryz.func89 (by kernel_rfl) rfl #[.string (a0.extract 0 ((ji5) : Int).toNat), .string (⟨#[10]⟩ : ByteArray)] rfl (by (try simp only [List.map_toArray, List.map_cons, List.map_nil]); first | done | (simp only [hji5]; rfl) | rfl | (simp only [List.length_drop, List.length_take]; rfl)) ?_; (with_reducible refine (strings_Split.calls (a0.extract 0 ((ji5) : Int).toNat) (⟨#[10]⟩ : ByteArray) t539 _ (someInt_ HM.out (bU_ HB)) A8.out).mono ?_); rintro e w9 ⟨v540, rfl, ho0, hb⟩; refine ⟨_, rfl, ?_⟩; have HO541 := M_ (Kd.R_lower ho0 (bZ_ HB)); replace HB := M_ (bS_ HB hb); clear hb ho0))
     go_ret2
     exact ⟨_, by first | rfl | (simp [errW_none, errW_some] <;> rfl) | (simp only [← hji5]; first | rfl | (simp [errW_none, errW_some] <;> rfl)) | (simp [*, errW_none, errW_some] <;> rfl), rU_ HO541.out, bU_ HB⟩
    ·rw [if_neg c7] at H
     exact absurd H (by simp)
   ·rw [if_neg c6] at H
    exact absurd H (by simp)
  ·replace c4 := Bool.eq_false_iff.mpr c4
   subst c4
   rw [if_neg (show ¬ (false = true) by decide)] at H
   simp only [Option.some.injEq, Prod.mk.injEq] at H;obtain ⟨rfl, rfl⟩ := H
   go_enter Tryz.func62, Tryz.ntmps62
   go_wp2_with (first | ((with_reducible refine gc_ 88 ?_); refine gM_ (some 7) Tryz.func88 #[.string a0, .string (⟨#[10]⟩ : ByteArray)] ?_; (with_reducible refine (strings_HasSuffix.calls a0 (⟨#[10]⟩ : ByteArray) false _ A3.out).mono ?_); rintro e w' ⟨rfl, ⟨nd, rfl⟩⟩; refine ⟨_, rfl, ?_⟩))
   go_ret2
   exact ⟨_, eR_, by first | exact Kd.R_nil _ _ _ _ _ | exact Kd.N_nil _ _ _ _ _ | exact Kd.V_nil _ _ _ _ _ | exact Kd.Q_nil _ _ _ _ _ | exact Kd.S_nil _ _ _ _ _, bU_ HB⟩
-- NOT PRINTED: function 90 (stringslite_Cut)

-- XNAME strings_Cut strings_Cut
-- XSHELF
-- XSPL
def strings_Cut.f (a0 : ByteArray) (a1 : ByteArray) : Option (ByteArray × ByteArray × Bool) := if a0.size < 4294967281 then some (⟨(Lib.cut a0.data.toList a1.data.toList).1.toArray⟩, ⟨(Lib.cut a0.data.toList a1.data.toList).2.1.toArray⟩, (Lib.cut a0.data.toList a1.data.toList).2.2) else none
theorem strings_Cut.calls (a0 : ByteArray) (a1 : ByteArray) (r1 : ByteArray) (r2 : ByteArray) (r3 : Bool) (w : World) (hM : ∃ m, w.cell? ⟨0, 0, none⟩ = some (.int .i64 m)) (h : strings_Cut.f a0 a1 = some (r1, r2, r3)) :
  Calls Tryz.prog 63 #[.string a0, .string a1] w fun e w' => e = .returned (.tuple #[.string r1, .string r2, .bool r3]) ∧ Below w.heap.size w w' := by
 unfold strings_Cut.f at h
 by_cases h1 : a0.size < 4294967281
 case neg => rw [if_neg h1] at h; cases h
 rw [if_pos h1] at h
 simp only [Option.some.injEq, Prod.mk.injEq] at h;obtain ⟨rfl, rfl, rfl⟩ := h;obtain ⟨m, hm⟩ := hM;refine (Tryz.strings_Cut a0 a1 m w h1 hm).mono ?_;rintro e w' ⟨rfl, n, rfl⟩;exact ⟨rfl, bn_ (Below.refl _ _) n⟩
end Go.Proofs.YtfpfjnmjekjnhaaGreatDoor.PFnNotes
