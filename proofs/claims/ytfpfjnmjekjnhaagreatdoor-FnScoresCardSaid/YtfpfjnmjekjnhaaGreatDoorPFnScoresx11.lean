-- by wip/xprint.py, over the kit's printer
import Derived.Test.YtfpfjnmjekjnhaaGreatDoorPFnScoresx0
import Derived.Test.YtfpfjnmjekjnhaaGreatDoorPFnScoresx2
import Derived.Test.YtfpfjnmjekjnhaaGreatDoorPFnScoresx7
import Derived.Test.YtfpfjnmjekjnhaaGreatDoorPFnScoresx9
import Derived.Test.YtfpfjnmjekjnhaaGreatDoorPFnScoresx10
namespace Go.Proofs.YtfpfjnmjekjnhaaGreatDoor.PFnScores
open Go.RowKit Go.Proofs.YtfpfjnmjekjnhaaGreatDoorW.PrintWords Go.Proofs.YtfpfjnmjekjnhaaGreatDoorW.PrintLast Go.Proofs.YtfpfjnmjekjnhaaGreatDoorW.PrintMore
attribute [local go_sem] max2_int min2_int max_two min_two max_three min_three max_four min_four   -- for this text's walks alone
set_option linter.unusedVariables false
set_option linter.unusedSimpArgs false

mutual
def spec_l1Cur_score.j0 : Nat → List (S31) → Int → List Int → Int → Int → Option ((List (S31)) × Int × Int)
 | 0, _, _, _, _, _ => none
 | k + 1, x3, x4, x1000, x1001, x1002 => spec_l1Cur_score.l0 k x3 x4 0 x1000 x1001 x1002
def spec_l1Cur_score.l0 : Nat → List (S31) → Int → Int → List Int → Int → Int → Option ((List (S31)) × Int × Int)
 | 0, _, _, _, _, _, _ => none
 | k + 1, x3, x4, x5, x1000, x1001, x1002 => if (x3.length : Int) < x4 then (spec_l1Cur_score.j2 k x3 x4 x5 (decide (x5 < 90)) x1000 x1001 x1002) else (spec_l1Cur_score.j2 k x3 x4 x5 false x1000 x1001 x1002)
def spec_l1Cur_score.j2 : Nat → List (S31) → Int → Int → Bool → List Int → Int → Int → Option ((List (S31)) × Int × Int)
 | 0, _, _, _, _, _, _, _ => none
 | k + 1, x3, x4, x5, x20, x1000, x1001, x1002 => if x20 = true then ((spec_l1Cur_note.f x1000 x1001 x1002).bind fun bt290 => (if x4 = 30 then ((spec_l1Cur_pick.f x1000 bt290.2.2.2.1 bt290.2.2.2.2 9).bind fun bt296 => (spec_l1Cur_score.j3 k x3 x4 x5 x1000 bt296.2.1 bt296.2.2 (48 + (2 * ((x3.length : Int) % 10))) (wrap64 (3 * (x3.length : Int))) (wrap64 (1 + bt296.1)))) else (spec_l1Cur_score.j3 k x3 x4 x5 x1000 bt290.2.2.2.1 bt290.2.2.2.2 bt290.1 bt290.2.1 bt290.2.2.1))) else (some (x3, x1001, x1002))
def spec_l1Cur_score.j3 : Nat → List (S31) → Int → Int → List Int → Int → Int → Int → Int → Int → Option ((List (S31)) × Int × Int)
 | 0, _, _, _, _, _, _, _, _, _ => none
 | k + 1, x3, x4, x5, x1000, x1001, x1002, x296000, x296001, x296002 => (some (([] : List (S31)) : List (S31))).bind fun y299 => (if y299.length + x3.length < 5864062014805 then ((some (y299 ++ x3 : List (S31))).bind fun y302 => ((some (([(⟨x296000, x296001, x296002⟩ : S31)] : List (S31)) : List (S31))).bind fun y305 => (if y302.length + y305.length < 5864062014805 then ((spec_ntSorted.f k (y302 ++ y305)).bind fun bt311 => (if bt311.2 = true then (spec_l1Cur_score.l0 k bt311.1 x4 (wrap64 (x5 + 1)) x1000 x1001 x1002) else (spec_l1Cur_score.l0 k x3 x4 (wrap64 (x5 + 1)) x1000 x1001 x1002))) else (none)))) else (none))
end
def spec_l1Cur_score.f (k : Nat) (s0_0 : List Int) (s0_1 : Int) (s0_2 : Int) : Option ((List (S31)) × Int × Int) := (spec_l1Cur_pick.f s0_0 s0_1 s0_2 9).bind fun bt284 => ((spec_l1Cur_one.f s0_0 bt284.2.1 bt284.2.2 20).bind fun bt287 => (if bt287.1 = true then (spec_l1Cur_score.j0 k ([] : List (S31)) 30 s0_0 bt287.2.1 bt287.2.2) else (spec_l1Cur_score.j0 k ([] : List (S31)) bt284.1 s0_0 bt287.2.1 bt287.2.2)))
theorem spec_l1Cur_score.mono_l : ∀ k, (∀ y0 y1 y2 y3 y4, LeO (spec_l1Cur_score.j0 k y0 y1 y2 y3 y4) (spec_l1Cur_score.j0 (k + 1) y0 y1 y2 y3 y4)) ∧ (∀ y0 y1 y2 y3 y4 y5, LeO (spec_l1Cur_score.l0 k y0 y1 y2 y3 y4 y5) (spec_l1Cur_score.l0 (k + 1) y0 y1 y2 y3 y4 y5)) ∧ (∀ y0 y1 y2 y3 y4 y5 y6, LeO (spec_l1Cur_score.j2 k y0 y1 y2 y3 y4 y5 y6) (spec_l1Cur_score.j2 (k + 1) y0 y1 y2 y3 y4 y5 y6)) ∧ (∀ y0 y1 y2 y3 y4 y5 y6 y7 y8, LeO (spec_l1Cur_score.j3 k y0 y1 y2 y3 y4 y5 y6 y7 y8) (spec_l1Cur_score.j3 (k + 1) y0 y1 y2 y3 y4 y5 y6 y7 y8))
 | 0 => ⟨fun _ _ _ _ _ r h => by simp [spec_l1Cur_score.j0] at h, fun _ _ _ _ _ _ r h => by simp [spec_l1Cur_score.l0] at h, fun _ _ _ _ _ _ _ r h => by simp [spec_l1Cur_score.j2] at h, fun _ _ _ _ _ _ _ _ _ r h => by simp [spec_l1Cur_score.j3] at h⟩
 | k + 1 => by
  obtain ⟨ih0, ih1, ih2, ih3⟩ := spec_l1Cur_score.mono_l k;refine ⟨?_, ?_, ?_, ?_⟩
  ·intro y0 y1 y2 y3 y4
   unfold spec_l1Cur_score.j0
   have m0_ := @spec_ntSorted.mono;exact mo_
  ·intro y0 y1 y2 y3 y4 y5
   unfold spec_l1Cur_score.l0
   have m0_ := @spec_ntSorted.mono;exact mo_
  ·intro y0 y1 y2 y3 y4 y5 y6
   unfold spec_l1Cur_score.j2
   have m0_ := @spec_ntSorted.mono;exact mo_
  ·intro y0 y1 y2 y3 y4 y5 y6 y7 y8
   unfold spec_l1Cur_score.j3
   have m0_ := @spec_ntSorted.mono;exact mo_
theorem spec_l1Cur_score.mono : ∀ a0 a1 a2 k, LeO (spec_l1Cur_score.f k a0 a1 a2) (spec_l1Cur_score.f (k + 1) a0 a1 a2) := by
 intro a0 a1 a2 k;obtain ⟨ih0, ih1, ih2, ih3⟩ := spec_l1Cur_score.mono_l k
 unfold spec_l1Cur_score.f
 have m0_ := @spec_ntSorted.mono;exact mo_
def spec_l1Cur_score.T11 : Bool × List (List Nat × List Nat) := (true, [([], []), ([], []), ([0, 1], [0, 1]), ([], []), ([3], [3]), ([2, 4, 2], [2, 4]), ([5, 5], [5]), ([6], [6]), ([7], [7]), ([7], [7]), ([8, 6, 0, 1, 2, 3, 4, 5, 6, 7, 8], [8]), ([9, 10, 0, 1, 2, 3, 4, 5, 6, 7, 8, 9, 10], [9])])
def spec_l1Cur_score.B11 : List Nat := [0, 0, 3, 0, 8, 31, 63, 127, 255, 255, 511, 2047]
theorem spec_l1Cur_score.tab11 : rtab .any (opsOf Tryz.f59 11) = spec_l1Cur_score.T11 := by kernel_rfl
theorem spec_l1Cur_score.bits11 : waitsOk spec_l1Cur_score.T11.2 spec_l1Cur_score.B11 = true := by kernel_rfl
set_option maxHeartbeats 8000000 in
set_option maxRecDepth 100000 in
theorem spec_l1Cur_score.calls (k : Nat) (g : Nat) (s0_0 : List Int) (s0_1 : Int) (s0_2 : Int) (r1 : List (S31)) (r2 : Int) (r3 : Int) (w0 w : World) (hI : IsS58 w0 w g s0_0 s0_1 s0_2) (hB : Below w0.heap.size w0 w) (h : spec_l1Cur_score.f k s0_0 s0_1 s0_2 = some (r1, r2, r3)) :
  Calls Tryz.prog 59 #[.pointer (some ⟨g, 0, none⟩)] w fun e w' => ∃ v0_ : Value, e = .returned (v0_) ∧ Kd.R k31 31 w' w.heap.size (fun _ => True) v0_ r1 ∧ IsS58 w0 w' g s0_0 r2 r3 ∧ Below w0.heap.size w0 w' ∧ KeepBut w w' g none := by
 have hu31 := Tryz.underlying31;have HI0 := M_ hI;have GEHI0_ := M_ (IsS58.ge HI0.out);have HK := M_ (KeepBut.refl w g none);have HL := M_ hB.size;clear hI;have HW0 := M_ hB.size;have HB := M_ hB;clear hB
 have H : ((spec_l1Cur_pick.f s0_0 s0_1 s0_2 9).bind fun bt284 => ((spec_l1Cur_one.f s0_0 bt284.2.1 bt284.2.2 20).bind fun bt287 => (if bt287.1 = true then (spec_l1Cur_score.j0 k ([] : List (S31)) 30 s0_0 bt287.2.1 bt287.2.2) else (spec_l1Cur_score.j0 k ([] : List (S31)) bt284.1 s0_0 bt287.2.1 bt287.2.2)))) = some (r1, r2, r3) := h
 clear h;replace H := Option.bind_eq_some_iff.mp H;obtain ⟨⟨t284, t285, t286⟩, A20, H⟩ := H;(try dsimp only at H);have A2 := M_ A20;clear A20;replace H := Option.bind_eq_some_iff.mp H;obtain ⟨⟨t287, t288, t289⟩, A30, H⟩ := H;(try dsimp only at H);have A3 := M_ A30;clear A30;have HC4 := M_ H;clear H
 go_enter Tryz.func59, Tryz.ntmps59
 go_upto_if 12 with (first | ((with_reducible refine gc_ 42 ?_); refine gM_ (some 10) Tryz.func42 #[.pointer (some ⟨g, 0, none⟩), .int .i64 9] ?_; (with_reducible refine (spec_l1Cur_pick.calls g s0_0 s0_1 s0_2 9 t284 t285 t286 w0 _ ?side1 ?side2 A2.out).mono ?_); (case side1 => exact iU_ HI0); (case side2 => exact bU_ HB); rintro e w5 ⟨rfl, hi, hb, hk⟩; refine ⟨_, rfl, ?_⟩; replace HK := M_ (pT_ HK hk); replace HB := M_ (hb); replace HI0 := M_ (hi); clear hb hk hi) | ((with_reducible refine gc_ 60 ?_); refine gM_ (some 12) Tryz.func60 #[.pointer (some ⟨g, 0, none⟩), .int .i64 20] ?_; (with_reducible refine (spec_l1Cur_one.calls g s0_0 t285 t286 20 t287 t288 t289 w0 _ ?side1 ?side2 A3.out).mono ?_); (case side1 => exact iU_ HI0); (case side2 => exact bU_ HB); rintro e w6 ⟨rfl, hi, hb, hk⟩; refine ⟨_, rfl, ?_⟩; replace HK := M_ (pT_ HK hk); replace HB := M_ (hb); replace HI0 := M_ (hi); clear hb hk hi))
 (try simp only [Act.put, la_, lb_, lc_])
 go_cut [4] (fun v4 wc => ∃ (kq : Nat) (x4_3 : Int), v4 = .int .i64 x4_3 ∧ Aside0 (spec_l1Cur_score.j0 kq ([] : List (S31)) x4_3 s0_0 t288 t289 = some (r1, r2, r3)) ∧ Aside0 (kq ≤ k) ∧ Aside0 (Kd.R k31 31 wc w.heap.size (fun _ => True) (.slice none 0 0) ([] : List (S31))) ∧ Aside0 (IsS58 w0 wc g s0_0 t288 t289) ∧ Aside0 (KeepBut w wc g none) ∧ Aside0 (Below w0.heap.size w0 wc))
 case first =>
  have H := HC4.out;clear HC4
  by_cases c7 : t287 = true
  ·subst c7
   rw [if_pos rfl] at H
   have H' := M_ H
   clear H
   go_wp2
   go_meet
   case rel => exact ⟨_, (30), eD_, H', ⟨by first | omega | exact Nat.le_refl _⟩, ⟨by first | exact Kd.R_nil _ _ _ _ _ | exact Kd.N_nil _ _ _ _ _ | exact Kd.V_nil _ _ _ _ _ | exact Kd.Q_nil _ _ _ _ _ | exact Kd.S_nil _ _ _ _ _⟩, ⟨iU_ HI0⟩, ⟨pU_ HK⟩, ⟨bU_ HB⟩⟩
  ·replace c7 := Bool.eq_false_iff.mpr c7
   subst c7
   rw [if_neg (show ¬ (false = true) by decide)] at H
   have H' := M_ H
   clear H
   go_wp2
   go_meet
   case rel => exact ⟨_, (t284), eD_, H', ⟨by first | omega | exact Nat.le_refl _⟩, ⟨by first | exact Kd.R_nil _ _ _ _ _ | exact Kd.N_nil _ _ _ _ _ | exact Kd.V_nil _ _ _ _ _ | exact Kd.Q_nil _ _ _ _ _ | exact Kd.S_nil _ _ _ _ _⟩, ⟨iU_ HI0⟩, ⟨pU_ HK⟩, ⟨bU_ HB⟩⟩
 case rest =>
  clear HC4;obtain ⟨kq, x4_3, rfl, HA, HJ3, HO_3, HI0, HK, HB⟩ := hcut
  cases kq with
  | zero => exact absurd HA.out (by simp [spec_l1Cur_score.j0])
  | succ kj3 =>
   have H := HA.out;clear HA;simp only [spec_l1Cur_score.j0] at H
   have H' := M_ H
   clear H
   go_wp2
   go_loopg [3, 5] kj3 (fun kq v3 v5 w' => ∃ (x3_2 : List (S31)) (x5_2 : Int) (x1001_2 : Int) (x1002_2 : Int), v5 = .int .i64 x5_2 ∧ Aside0 (spec_l1Cur_score.l0 kq x3_2 x4_3 x5_2 s0_0 x1001_2 x1002_2 = some (r1, r2, r3)) ∧ Aside0 (kq ≤ kj3) ∧ Aside0 (Kd.R k31 31 w' w.heap.size (fun _ => True) v3 x3_2) ∧ Aside0 (IsS58 w0 w' g s0_0 x1001_2 x1002_2) ∧ Aside0 (KeepBut w w' g none) ∧ Aside0 (Below w0.heap.size w0 w'))
   case atStart => exact ⟨(([] : List (S31))), (0), (t288), (t289), eD_, H', ⟨Nat.le_refl _⟩, ⟨rU_ HO_3.out⟩, ⟨iU_ HI0⟩, ⟨pU_ HK⟩, ⟨bU_ HB⟩⟩
   case round =>
    clear H';obtain ⟨x3_2, x5_2, x1001_2, x1002_2, rfl, HA, HK2, HO_3, HI0, HK, HB⟩ := hrel
    cases gk with
    | zero => exact absurd HA.out (by simp [spec_l1Cur_score.l0])
    | succ k2 =>
     have H := HA.out;clear HA;simp only [spec_l1Cur_score.l0] at H;have HC8 := M_ H;clear H
     go_upto_region 6 with (fail)
     go_cut [20] (fun v20 wc => ∃ (kq : Nat) (x20_7 : Bool), v20 = .bool x20_7 ∧ Aside0 (spec_l1Cur_score.j2 kq x3_2 x4_3 x5_2 x20_7 s0_0 x1001_2 x1002_2 = some (r1, r2, r3)) ∧ Aside0 (kq ≤ k2) ∧ Aside0 (Kd.R k31 31 wc w.heap.size (fun _ => True) u3 x3_2) ∧ Aside0 (IsS58 w0 wc g s0_0 x1001_2 x1002_2) ∧ Aside0 (KeepBut w wc g none) ∧ Aside0 (Below w0.heap.size w0 wc))
     case first =>
      have H := HC8.out;clear HC8
      by_cases c9 : (x3_2.length : Int) < x4_3
      ·rw [if_pos c9] at H
       have c9b0 : decide ((x3_2.length : Int) < x4_3) = true := decide_eq_true c9
       clear c9
       (first | rw [c9b0] | (simp only [i64_w, i32_w]; rw [c9b0]) | skip)
       have H' := M_ H
       clear H;obtain ⟨Ao10, co10, eo10⟩ := Kd.R_slice HO_3.out;subst eo10
       go_wp2
       go_meet
       case rel => exact ⟨_, (decide (x5_2 < 90)), eD_, H', ⟨by have := HJ3.out; have := HK2.out; first | omega | exact Nat.le_refl _⟩, ⟨rU_ HO_3.out⟩, ⟨iU_ HI0⟩, ⟨pU_ HK⟩, ⟨bU_ HB⟩⟩
      ·rw [if_neg c9] at H
       have c9b0 : decide ((x3_2.length : Int) < x4_3) = false := decide_eq_false c9
       clear c9
       (first | rw [c9b0] | (simp only [i64_w, i32_w]; rw [c9b0]) | skip)
       have H' := M_ H
       clear H;obtain ⟨Ao11, co11, eo11⟩ := Kd.R_slice HO_3.out;subst eo11
       go_wp2
       go_meet
       case rel => exact ⟨_, (false), eD_, H', ⟨by have := HJ3.out; have := HK2.out; first | omega | exact Nat.le_refl _⟩, ⟨rU_ HO_3.out⟩, ⟨iU_ HI0⟩, ⟨pU_ HK⟩, ⟨bU_ HB⟩⟩
     case rest =>
      clear HC8;obtain ⟨kq, x20_7, rfl, HA, HJ7, HO_3, HI0, HK, HB⟩ := hcut
      cases kq with
      | zero => exact absurd HA.out (by simp [spec_l1Cur_score.j2])
      | succ kj7 =>
       have H := HA.out;clear HA;simp only [spec_l1Cur_score.j2] at H
       by_cases c12 : x20_7 = true
       ·subst c12
        rw [if_pos rfl] at H
        replace H := Option.bind_eq_some_iff.mp H;obtain ⟨⟨t290, t291, t292, t293, t294⟩, A130, H⟩ := H;(try dsimp only at H);have A13 := M_ A130;clear A130;have HC14 := M_ H;clear H
        go_upto_if 26 with (first | ((with_reducible refine gc_ 87 ?_); refine gM_ (some 24) Tryz.func87 #[.pointer (some ⟨g, 0, none⟩)] ?_; (with_reducible refine (spec_l1Cur_note.calls g s0_0 x1001_2 x1002_2 t290 t291 t292 t293 t294 w0 _ ?side1 ?side2 A13.out).mono ?_); (case side1 => exact iU_ HI0); (case side2 => exact bU_ HB); rintro e w15 ⟨rfl, hi, hb, hk⟩; refine ⟨_, rfl, ?_⟩; replace HO_3 := M_ (ik_ HI0 HO_3 hk); replace HK := M_ (pT_ HK hk); replace HB := M_ (hb); replace HI0 := M_ (hi); clear hb hk hi) | ((with_reducible refine gate_dst (N := 6) rfl ?_); refine bx_ (N := 6) (cs := #[.int .i64 0, .int .i64 0, .int .i64 0]) (t := 31) ?_; intro gb295 hg w16 hbox hb; replace HO_3 := M_ (rb_ (Kd.R_elderB (rU_ HO_3.out) gb295 (Nat.le_of_eq hg.symm)) hb); replace HB := M_ (bS_ HB hb); have BK295 := M_ (hbox); have GW295 := M_ (gp_ HK hg); have GE295 := M_ ((Nat.le_trans HW0.out (by rw [hg]; exact (pS_ (w := w) (g := g) HK) : w.heap.size ≤ gb295) : w0.heap.size ≤ gb295)); replace HK := M_ (pB_ HK hb); have NB0_295 := M_ ((by rw [hg]; exact Nat.ne_of_lt (IsS58.lt (show IsS58 w0 _ g s0_0 t293 t294 from iU_ HI0)) : g ≠ gb295)); have NB295_0 := M_ ((by rw [hg]; exact Nat.ne_of_gt (IsS58.lt (show IsS58 w0 _ g s0_0 t293 t294 from iU_ HI0)) : gb295 ≠ g)); replace HI0 := M_ (IsS58.below (iU_ HI0) hb); clear hb hbox hg; have hnb17 := NB295_0.out; have hnc17 := NB0_295.out; obtain ⟨hcz18_0, hcz18_1, hcz18_2, hfz18_0, hfz18_1, hfz18_2⟩ := bq3_ BK295))
        (try simp only [Act.put, la_, lb_, lc_])
        go_cut [] (fun wc => ∃ (kq : Nat) (x1001_13 : Int) (x1002_13 : Int) (x296000_13 : Int) (x296001_13 : Int) (x296002_13 : Int), Aside0 (spec_l1Cur_score.j3 kq x3_2 x4_3 x5_2 s0_0 x1001_13 x1002_13 x296000_13 x296001_13 x296002_13 = some (r1, r2, r3)) ∧ Aside0 (kq ≤ kj7) ∧ Aside0 (Kd.R k31 31 wc w.heap.size (fun k_ => k_ ≠ gb295) u3 x3_2) ∧ Aside0 (wc.heap[gb295]? = some (.cells #[.int .i64 x296000_13, .int .i64 x296001_13, .int .i64 x296002_13] 31 (0, 0))) ∧ Aside0 (IsS58 w0 wc g s0_0 x1001_13 x1002_13) ∧ Aside0 (KeepBut w wc g none) ∧ Aside0 (Below w0.heap.size w0 wc))
        case first =>
         have H := HC14.out;clear HC14
         by_cases c19 : x4_3 = 30
         focus
          rw [if_pos c19] at H
          have c19b0 : (x4_3 == 30) = true := beq_iff_eq.mpr c19
          have c19b1 : (x4_3 != 30) = false := bne_eq_false_iff_eq.mpr c19
          clear c19
          (first | rw [c19b0] | (simp only [i64_w, i32_w]; rw [c19b0]) | skip)
          replace H := Option.bind_eq_some_iff.mp H;obtain ⟨⟨t296, t297, t298⟩, A200, H⟩ := H;(try dsimp only at H);have A20 := M_ A200;clear A200
          have H' := M_ H
          clear H;obtain ⟨Ao21, co21, eo21⟩ := Kd.R_slice HO_3.out;subst eo21
         rotate_left
         focus
          rw [if_neg c19] at H
          have c19b0 : (x4_3 == 30) = false := beq_eq_false_iff_ne.mpr c19
          have c19b1 : (x4_3 != 30) = true := bne_iff_ne.mpr c19
          (first | rw [c19b0] | (simp only [i64_w, i32_w]; rw [c19b0]) | skip)
          have H' := M_ H
          clear H
         rotate_left
         all_goals
          go_wp2_with (first | ((with_reducible refine gc_ 42 ?_); refine gM_ (some 36) Tryz.func42 #[.pointer (some ⟨g, 0, none⟩), .int .i64 9] ?_; (with_reducible refine (spec_l1Cur_pick.calls g s0_0 t293 t294 9 t296 t297 t298 w0 _ ?side1 ?side2 A20.out).mono ?_); (case side1 => exact iU_ HI0); (case side2 => exact bU_ HB); rintro e w22 ⟨rfl, hi, hb, hk⟩; refine ⟨_, rfl, ?_⟩; replace HO_3 := M_ (rm_ (Kd.R_keep (IsS58.apart (show IsS58 w0 _ g s0_0 t293 t294 from iU_ HI0) (rU_ ((rm_ (Kd.R_far (p := ⟨gb295, 2, none⟩) (Kd.R_far (p := ⟨gb295, 1, none⟩) (Kd.R_far (p := ⟨gb295, 0, none⟩) (rm_ HO_3.out (fun k_ hk => (⟨hk, hk.2⟩ : _ ∧ k_ ≠ gb295))) (fun _ hk => hk.2) (.int .i64 t290)) (fun _ hk => hk.2) (.int .i64 t291)) (fun _ hk => hk.2) (.int .i64 t292)) (fun _ h_ => h_.1)))) (by decide)) hk (fun _ h => h.2)) (fun _ h => h.1)); replace BK295 := M_ (KeepBut.blk hk (g' := gb295) (o := .cells #[.int .i64 t290, .int .i64 t291, .int .i64 t292] 31 (0, 0)) (by (with_reducible repeat (first | refine kn_ ?_ _ | refine kd_ ?_ | refine ka_ ?_ _)); refine blk_put (cs := #[.int .i64 t290, .int .i64 t291, .int .i64 0]) ?_ 2 _ rfl; (with_reducible repeat (first | refine kn_ ?_ _ | refine kd_ ?_ | refine ka_ ?_ _)); refine blk_put (cs := #[.int .i64 t290, .int .i64 0, .int .i64 0]) ?_ 1 _ rfl; (with_reducible repeat (first | refine kn_ ?_ _ | refine kd_ ?_ | refine ka_ ?_ _)); refine blk_put (cs := #[.int .i64 0, .int .i64 0, .int .i64 0]) ?_ 0 _ rfl; (with_reducible repeat (first | refine kn_ ?_ _ | refine kd_ ?_ | refine ka_ ?_ _)); exact BK295.out) NB295_0.out (by simp)); replace HK := M_ (pT_ HK hk); replace HB := M_ (hb); replace HI0 := M_ (hi); clear hb hk hi; have hnb23 := NB295_0.out; have hnc23 := NB0_295.out; obtain ⟨hcz24_0, hcz24_1, hcz24_2, hfz24_0, hfz24_1, hfz24_2⟩ := bq3_ BK295))
          go_meet
         ·case rel => exact ⟨_, (t297), (t298), (48 + (2 * ((x3_2.length : Int) % 10))), (wrap64 (3 * (x3_2.length : Int))), (wrap64 (1 + t296)), H', ⟨by have := HJ3.out; have := HK2.out; have := HJ7.out; first | omega | exact Nat.le_refl _⟩, ⟨by (with_reducible repeat (first | apply ra_ | apply rn_ | apply rd_)); exact rm_ (Kd.R_far (p := ⟨gb295, 2, none⟩) (Kd.R_far (p := ⟨gb295, 1, none⟩) (Kd.R_far (p := ⟨gb295, 0, none⟩) (rm_ HO_3.out (fun k_ hk => (⟨hk, hk.2⟩ : _ ∧ k_ ≠ gb295))) (fun _ hk => hk.2) (.int .i64 (48 + (2 * ((x3_2.length : Int) % 10))))) (fun _ hk => hk.2) (.int .i64 (wrap64 (3 * (x3_2.length : Int))))) (fun _ hk => hk.2) (.int .i64 (wrap64 (1 + t296)))) (fun _ hk => hk.1.2)⟩, ⟨by (with_reducible repeat (first | refine kn_ ?_ _ | refine kd_ ?_ | refine ka_ ?_ _)); refine blk_put (cs := #[.int .i64 (48 + (2 * ((x3_2.length : Int) % 10))), .int .i64 (wrap64 (3 * (x3_2.length : Int))), .int .i64 t292]) ?_ 2 _ rfl; (with_reducible repeat (first | refine kn_ ?_ _ | refine kd_ ?_ | refine ka_ ?_ _)); refine blk_put (cs := #[.int .i64 (48 + (2 * ((x3_2.length : Int) % 10))), .int .i64 t291, .int .i64 t292]) ?_ 1 _ rfl; (with_reducible repeat (first | refine kn_ ?_ _ | refine kd_ ?_ | refine ka_ ?_ _)); refine blk_put (cs := #[.int .i64 t290, .int .i64 t291, .int .i64 t292]) ?_ 0 _ rfl; (with_reducible repeat (first | refine kn_ ?_ _ | refine kd_ ?_ | refine ka_ ?_ _)); exact BK295.out⟩, ⟨iU_ HI0⟩, ⟨pU_ HK⟩, ⟨bU_ HB⟩⟩
         ·case rel => exact ⟨_, (t293), (t294), (t290), (t291), (t292), H', ⟨by have := HJ3.out; have := HK2.out; have := HJ7.out; first | omega | exact Nat.le_refl _⟩, ⟨by (with_reducible repeat (first | apply ra_ | apply rn_ | apply rd_)); exact rm_ (Kd.R_far (p := ⟨gb295, 2, none⟩) (Kd.R_far (p := ⟨gb295, 1, none⟩) (Kd.R_far (p := ⟨gb295, 0, none⟩) (rm_ HO_3.out (fun k_ hk => (⟨hk, hk.2⟩ : _ ∧ k_ ≠ gb295))) (fun _ hk => hk.2) (.int .i64 t290)) (fun _ hk => hk.2) (.int .i64 t291)) (fun _ hk => hk.2) (.int .i64 t292)) (fun _ hk => hk.1.2)⟩, ⟨by (with_reducible repeat (first | refine kn_ ?_ _ | refine kd_ ?_ | refine ka_ ?_ _)); refine blk_put (cs := #[.int .i64 t290, .int .i64 t291, .int .i64 0]) ?_ 2 _ rfl; (with_reducible repeat (first | refine kn_ ?_ _ | refine kd_ ?_ | refine ka_ ?_ _)); refine blk_put (cs := #[.int .i64 t290, .int .i64 0, .int .i64 0]) ?_ 1 _ rfl; (with_reducible repeat (first | refine kn_ ?_ _ | refine kd_ ?_ | refine ka_ ?_ _)); refine blk_put (cs := #[.int .i64 0, .int .i64 0, .int .i64 0]) ?_ 0 _ rfl; (with_reducible repeat (first | refine kn_ ?_ _ | refine kd_ ?_ | refine ka_ ?_ _)); exact BK295.out⟩, ⟨iU_ HI0⟩, ⟨pU_ HK⟩, ⟨bU_ HB⟩⟩
        case rest =>
         clear HC14;obtain ⟨kq, x1001_13, x1002_13, x296000_13, x296001_13, x296002_13, HA, HJ13, HO_3, BK295, HI0, HK, HB⟩ := hcut
         cases kq with
         | zero => exact absurd HA.out (by simp [spec_l1Cur_score.j3])
         | succ kj13 =>
          have H := HA.out;clear HA;simp only [spec_l1Cur_score.j3] at H;obtain ⟨y299, hy299, H⟩ := ob_ H;(try dsimp only at H);have Ny299 := M_ hy299;clear hy299
          by_cases c25 : y299.length + x3_2.length < 5864062014805
          ·rw [if_pos c25] at H
           have LMc25 := M_ c25;clear c25;obtain ⟨y302, hy302, H⟩ := ob_ H;(try dsimp only at H);have Ny302 := M_ hy302;clear hy302;obtain ⟨y305, hy305, H⟩ := ob_ H;(try dsimp only at H);have Ny305 := M_ hy305;clear hy305
           by_cases c26 : y302.length + y305.length < 5864062014805
           ·rw [if_pos c26] at H
            have LMc26 := M_ c26;clear c26;obtain ⟨y308, hy308⟩ : ∃ y_ : List (S31), y_ = (y302 ++ y305) := ⟨_, rfl⟩
            replace H : ((spec_ntSorted.f kj13 y308).bind fun bt311 => (if bt311.2 = true then (spec_l1Cur_score.l0 kj13 bt311.1 x4_3 (wrap64 (x5_2 + 1)) s0_0 x1001_13 x1002_13) else (spec_l1Cur_score.l0 kj13 x3_2 x4_3 (wrap64 (x5_2 + 1)) s0_0 x1001_13 x1002_13))) = some (r1, r2, r3) := by first | (rw [hy308]; with_reducible exact H) | (have H2_ := (Option.bind_some _ _).symm.trans H; rw [hy308]; with_reducible exact H2_) | (have H2_ := (Option.bind_some _ _).symm.trans H; with_reducible exact H2_) | with_reducible exact H | (rw [hy308]; exact H) | exact H
            have Ny308 := M_ hy308;clear hy308;replace H := Option.bind_eq_some_iff.mp H;obtain ⟨⟨t311, t312⟩, A270, H⟩ := H;(try dsimp only at H);have A27 := M_ A270;clear A270
            by_cases c28 : t312 = true
            focus
             subst c28
             rw [if_pos rfl] at H
            rotate_left
            focus
             replace c28 := Bool.eq_false_iff.mpr c28
             subst c28
             rw [if_neg (show ¬ (false = true) by decide)] at H
            rotate_left
            all_goals
             have H' := M_ H
             clear H;obtain ⟨Ao29, co29, eo29⟩ := Kd.R_slice HO_3.out;subst eo29
             try go_wp2
             replace HO_3 := M_ (rd_ HO_3.out); replace BK295 := M_ (kd_ BK295.out); replace HI0 := M_ (IsS58.drew HI0.out); replace HK := M_ (keep_drew HK.out); replace HB := M_ (b1_ HB.out);refine start_ (n := 12) (S := fun w' => w'.cell? ⟨gb295, 0, none⟩ = some (.int .i64 x296000_13) ∧ w'.cell? ⟨gb295, 1, none⟩ = some (.int .i64 x296001_13) ∧ w'.cell? ⟨gb295, 2, none⟩ = some (.int .i64 x296002_13)) (ds := []) #[F,F,F,F,F,F,F,F,F,F,F,F] (by kernel_rfl) rfl rfl ⟨bc0_ BK295, bc1_ BK295, bc2_ BK295⟩ (fun hHeld => ?_); refine with_tabW spec_l1Cur_score.tab11 spec_l1Cur_score.bits11 (fun HT_ HW_ => ?_);generalize wc.drew = w30 at HO_3 BK295 HI0 HK HB hHeld ⊢;refine pR_ (i := 1) (N := some 41) #[F,T,F,F,F,F,F,F,F,F,F,F] ?_;refine take_ (i := 3) (N := some 43) (v := ?_) (a' := ?_) #[F,T,F,T,F,F,F,F,F,F,F,F] rfl rfl (take_ofW HT_.out HW_.out (by kernel_rfl)) (fun _ _ _ h => h) (Or.inl ⟨by rfl, ?_⟩) hHeld ?_ ?_;rotate_left
             ·rintro w' ⟨s0, s1, s2⟩
              go_simp;with_reducible rfl
             rotate_left
             ·simp only [Act.put, la_, lb_, lc_, i64_w, i32_w]
              rfl
             refine join_ (σ := Value × Value × Value) 7 #[T,T,T,T,T,F,F,F,F,F,F,F] (fun s_ => [(40, s_.1), (42, s_.2.1), (44, s_.2.2)]) (fun s_ w' => (w'.cell? ⟨gb295, 0, none⟩ = some (.int .i64 x296000_13) ∧ w'.cell? ⟨gb295, 1, none⟩ = some (.int .i64 x296001_13) ∧ w'.cell? ⟨gb295, 2, none⟩ = some (.int .i64 x296002_13)) ∧ (Kd.R k31 31 w' w.heap.size (fun k_ => some k_ ≠ (s_.2.2 : Value).ownBlock ∧ some k_ ≠ (.slice Ao29 x3_2.length co29 : Value).ownBlock ∧ k_ ≠ gb295) s_.2.1 y302) ∧ (Kd.R k31 31 w' w.heap.size (fun k_ => some k_ ≠ (s_.2.1 : Value).ownBlock ∧ some k_ ≠ (.slice Ao29 x3_2.length co29 : Value).ownBlock ∧ k_ ≠ gb295) s_.2.2 y305) ∧ (Kd.R k31 31 w' w.heap.size (fun k_ => some k_ ≠ (s_.2.1 : Value).ownBlock ∧ some k_ ≠ (s_.2.2 : Value).ownBlock ∧ k_ ≠ gb295) (.slice Ao29 x3_2.length co29) x3_2) ∧ (w'.heap[gb295]? = some (.cells #[.int .i64 x296000_13, .int .i64 x296001_13, .int .i64 x296002_13] 31 (0, 0))) ∧ (IsS58 w0 w' g s0_0 x1001_13 x1002_13) ∧ (KeepBut w w' g none) ∧ (Below w0.heap.size w0 w')) ?_ ?_;rotate_left
             ·intro hCont
              refine two_ (i := 0) (j := 4) (Ni := some 40) (Nj := some 44) #[T,T,F,T,F,F,F,F,F,F,F,F] #[F,T,F,T,T,F,F,F,F,F,F,F] rfl rfl rfl rfl (two_of HT_.out (by kernel_rfl)) (by decide) (by decide) (fun K hK => ?_) (fun K hK => ?_)
              ·skip
               refine ls_ k31 31 (N := 40) (([] : List (S31))) [] (Reps.none _ _) ?_;intro v300 w31 ho32 hb hg_ hnew_;clear hg_ hnew_;replace ho32 := rN_ Ny299 ho32;have HO301 := M_ (Kd.R_lower (Kd.R_newB (Kd.R_new' ho32 (rl_ HO_3)) (kU_ BK295)) (pS_ (w := w) (g := g) HK)); replace HO_3 := M_ (re_ HO_3 ho32 hb); replace BK295 := M_ (kb_ BK295 hb); replace HI0 := M_ (IsS58.below (iU_ HI0) hb); replace HK := M_ (pB_ HK hb); replace HB := M_ (bS_ HB hb);clear hb ho32;refine hK.out _ _ ⟨bc0_ BK295, bc1_ BK295, bc2_ BK295⟩ (fun hHeld => ?_);clear hK K;refine nM_ (some 40) ?_;refine two_ (i := 2) (j := 4) (Ni := some 42) (Nj := some 44) #[T,T,T,T,F,F,F,F,F,F,F,F] #[T,T,F,T,T,F,F,F,F,F,F,F] rfl rfl rfl rfl (two_of HT_.out (by kernel_rfl)) (by decide) (by decide) (fun K hK => ?_) (fun K hK => ?_)
               ·skip
                refine Kd.R_append_rows_step k31 w.heap.size (by rfl) (.tmp 40) (.tmp 41) 24 31 (.agg #[(.int .i64 0), (.int .i64 0), (.int .i64 0)]) 24 rfl Tryz.underlying24 info31 rfl (by decide) (by omega) v300 y299 x3_2 _ _ _ (fun k_ => some k_ ≠ (.slice Ao29 x3_2.length co29 : Value).ownBlock ∧ k_ ≠ gb295) (fun _ => False) rfl rfl ?aO ?aR (fun _ _ h => h) (fun _ h => h.elim) ?aF (Below.refl _ _) ?aS ?aL ?_
                (case aR => exact cU_ (Kd.R_reads' HO_3.out).2.2)
                (case aF => exact (fun k_ hk => ⟨Kd.fresh' (rl_ HO_3) k_ hk, Kd.freshB (kU_ BK295) k_ hk⟩))
                (case aO => exact (by (with_reducible repeat (first | apply ra_ | apply rn_ | apply rd_)); first | exact rm_ HO301.out (fun _ hk => ⟨hk.1.2, hk.2⟩) | exact rm_ HO301.out (fun _ hk => by refine ⟨?_, ?_⟩ <;> (first | exact hk.2 | exact hk.2.1 | exact hk.2.2 | exact hk.1.2 | exact hk.1.2.1 | exact hk.1.2.2 | exact hk.1.1.2 | exact hk.1.1.2.1 | exact hk.1.1.2.2 | exact hk.1.1.1.2 | exact hk.1.1.1.2.1 | exact hk.1.1.1.2.2 | exact hk.1.1.1.1.2 | exact hk.1.1.1.1.2.1 | exact hk.1.1.1.1.2.2 | exact hk | exact hk.1 | exact hk.1.1 | exact hk.1.1.1 | exact hk.1.1.1.1 | exact hk.1.1.1.1.1))))
                (case aS => exact (pS_ (w := w) (g := g) HK))
                (case aL => have := LMc25.out; omega)
                intro v303 w33 ho hb hg hat
                rw [← Ny302.out] at ho
                replace HO_3 := M_ (Kd.R_after (ok := (fun k_ => k_ ≠ gb295)) (rU_ HO_3.out) hg hat); replace BK295 := M_ (kg_ BK295 hg (Kd.R_away HO301.out (fun _ hk => hk.2))); replace HI0 := M_ (IsS58.grown (iU_ HI0) hg (IsS58.own_ne HI0.out HO301.out (by decide))); replace HB := M_ (below_weaken (bU_ HB) HL.out hb); replace HK := M_ (KeepBut.trans (pU_ HK) (KeepBut.of_grown hg g) (Kd.R_base2 HO301.out)); have HO304 := M_ (ho); clear HO301;clear ho hb hg hat;refine hK.out _ _ ⟨bc0_ BK295, bc1_ BK295, bc2_ BK295⟩ (fun hHeld => ?_);clear hK K;refine nM_ (some 42) ?_;refine one_ (i := 4) (N := some 44) #[T,T,T,T,T,F,F,F,F,F,F,F] rfl rfl (one_of HT_.out (by kernel_rfl)) (by decide) (fun K hK => ?_);refine ls_ k31 31 (N := 44) (([(⟨x296000_13, x296001_13, x296002_13⟩ : S31)] : List (S31))) [.int .i64 x296000_13, .int .i64 x296001_13, .int .i64 x296002_13] ?hp ?_; (case hp => exact (Reps.c3 (show Kd.M k31 _ _ _ (⟨x296000_13, x296001_13, x296002_13⟩ : S31) [.int .i64 x296000_13, .int .i64 x296001_13, .int .i64 x296002_13] from (k31_mkM _ _ _ (⟨x296000_13, x296001_13, x296002_13⟩ : S31) )) (Reps.none _ _)));intro v306 w34 ho35 hb hg_ hnew_;clear hg_ hnew_;replace ho35 := rN_ Ny305 ho35;have HO307 := M_ (Kd.R_lower (Kd.R_newB (Kd.R_new' (Kd.R_new' ho35 (rl_ HO_3)) (rl_ HO304)) (kU_ BK295)) (pS_ (w := w) (g := g) HK)); replace HO_3 := M_ (re_ HO_3 ho35 hb); replace HO304 := M_ (re_ HO304 ho35 hb); replace BK295 := M_ (kb_ BK295 hb); replace HI0 := M_ (IsS58.below (iU_ HI0) hb); replace HK := M_ (pB_ HK hb); replace HB := M_ (bS_ HB hb);clear hb ho35;refine hK.out _ _ ⟨bc0_ BK295, bc1_ BK295, bc2_ BK295⟩ (fun hHeld => ?_);clear hK K;refine nM_ (some 44) ?_;exact norm_ (by simp only [putAll, Act.put, la_, lb_, lc_]) (hCont (v300, v303, v306) _ ⟨hHeld, (rU_ (rm_ HO304.out (fun _ hk => ⟨hk.2, ⟨hk.1.1, hk.1.2⟩⟩))), (rU_ (rm_ HO307.out (fun _ hk => ⟨hk.1.2, ⟨hk.1.1.2, hk.2⟩⟩))), (rU_ (rm_ HO_3.out (fun _ hk => ⟨hk.1.2, ⟨hk.2, hk.1.1⟩⟩))), (kU_ BK295), (iU_ HI0), (pU_ HK), (bU_ HB)⟩)
               ·skip
                refine ls_ k31 31 (N := 44) (([(⟨x296000_13, x296001_13, x296002_13⟩ : S31)] : List (S31))) [.int .i64 x296000_13, .int .i64 x296001_13, .int .i64 x296002_13] ?hp ?_; (case hp => exact (Reps.c3 (show Kd.M k31 _ _ _ (⟨x296000_13, x296001_13, x296002_13⟩ : S31) [.int .i64 x296000_13, .int .i64 x296001_13, .int .i64 x296002_13] from (k31_mkM _ _ _ (⟨x296000_13, x296001_13, x296002_13⟩ : S31) )) (Reps.none _ _)));intro v306 w33 ho34 hb hg_ hnew_;clear hg_ hnew_;replace ho34 := rN_ Ny305 ho34;have HO307 := M_ (Kd.R_lower (Kd.R_newB (Kd.R_new' (Kd.R_new' ho34 (rl_ HO_3)) (rl_ HO301)) (kU_ BK295)) (pS_ (w := w) (g := g) HK)); replace HO_3 := M_ (re_ HO_3 ho34 hb); replace HO301 := M_ (re_ HO301 ho34 hb); replace BK295 := M_ (kb_ BK295 hb); replace HI0 := M_ (IsS58.below (iU_ HI0) hb); replace HK := M_ (pB_ HK hb); replace HB := M_ (bS_ HB hb);clear hb ho34;refine hK.out _ _ ⟨bc0_ BK295, bc1_ BK295, bc2_ BK295⟩ (fun hHeld => ?_);clear hK K;refine nM_ (some 44) ?_;refine one_ (i := 2) (N := some 42) #[T,T,T,T,T,F,F,F,F,F,F,F] rfl rfl (one_of HT_.out (by kernel_rfl)) (by decide) (fun K hK => ?_);refine Kd.R_append_rows_step k31 w.heap.size (by rfl) (.tmp 40) (.tmp 41) 24 31 (.agg #[(.int .i64 0), (.int .i64 0), (.int .i64 0)]) 24 rfl Tryz.underlying24 info31 rfl (by decide) (by omega) v300 y299 x3_2 _ _ _ (fun k_ => some k_ ≠ (.slice Ao29 x3_2.length co29 : Value).ownBlock ∧ some k_ ≠ (v306 : Value).ownBlock ∧ k_ ≠ gb295) (fun _ => False) rfl rfl ?aO ?aR (fun _ _ h => h) (fun _ h => h.elim) ?aF (Below.refl _ _) ?aS ?aL ?_
                (case aR => exact cU_ (Kd.R_reads' HO_3.out).2.2)
                (case aF => exact (fun k_ hk => ⟨Kd.fresh' (rl_ HO_3) k_ hk, Kd.fresh' (rl_ HO307) k_ hk, Kd.freshB (kU_ BK295) k_ hk⟩))
                (case aO => exact (rU_ (rm_ HO301.out (fun _ hk => ⟨hk.1.1.2, ⟨hk.2, hk.1.2⟩⟩))))
                (case aS => exact (pS_ (w := w) (g := g) HK))
                (case aL => have := LMc25.out; omega)
                intro v303 w35 ho hb hg hat
                rw [← Ny302.out] at ho
                replace HO_3 := M_ (Kd.R_after (ok := (fun k_ => some k_ ≠ (v306 : Value).ownBlock ∧ k_ ≠ gb295)) (rU_ (rm_ HO_3.out (fun _ hk => ⟨⟨hk.2, hk.1.1⟩, hk.1.2⟩))) hg hat); replace BK295 := M_ (kg_ BK295 hg (Kd.R_away HO301.out (fun _ hk => hk.1.2))); replace HI0 := M_ (IsS58.grown (iU_ HI0) hg (IsS58.own_ne HI0.out HO301.out (by decide))); replace HO307 := M_ (Kd.R_after (ok := (fun k_ => some k_ ≠ (.slice Ao29 x3_2.length co29 : Value).ownBlock ∧ k_ ≠ gb295)) (rU_ (rm_ HO307.out (fun _ hk => ⟨⟨hk.1.1.2, hk.2⟩, hk.1.2⟩))) hg hat); replace HB := M_ (below_weaken (bU_ HB) HL.out hb); replace HK := M_ (KeepBut.trans (pU_ HK) (KeepBut.of_grown hg g) (Kd.R_base2 HO301.out)); have HO304 := M_ (ho); clear HO301;clear ho hb hg hat;refine hK.out _ _ ⟨bc0_ BK295, bc1_ BK295, bc2_ BK295⟩ (fun hHeld => ?_);clear hK K;refine nM_ (some 42) ?_;exact norm_ (by simp only [putAll, Act.put, la_, lb_, lc_]) (hCont (v300, v303, v306) _ ⟨hHeld, (rU_ (rm_ HO304.out (fun _ hk => ⟨hk.2.1, ⟨hk.1, hk.2.2⟩⟩))), (rU_ (rm_ HO307.out (fun _ hk => ⟨hk.2, ⟨hk.1.1, hk.1.2⟩⟩))), (rU_ (rm_ HO_3.out (fun _ hk => ⟨hk.2, ⟨hk.1.1, hk.1.2⟩⟩))), (kU_ BK295), (iU_ HI0), (pU_ HK), (bU_ HB)⟩)
              ·skip
               refine ls_ k31 31 (N := 44) (([(⟨x296000_13, x296001_13, x296002_13⟩ : S31)] : List (S31))) [.int .i64 x296000_13, .int .i64 x296001_13, .int .i64 x296002_13] ?hp ?_; (case hp => exact (Reps.c3 (show Kd.M k31 _ _ _ (⟨x296000_13, x296001_13, x296002_13⟩ : S31) [.int .i64 x296000_13, .int .i64 x296001_13, .int .i64 x296002_13] from (k31_mkM _ _ _ (⟨x296000_13, x296001_13, x296002_13⟩ : S31) )) (Reps.none _ _)));intro v306 w31 ho32 hb hg_ hnew_;clear hg_ hnew_;replace ho32 := rN_ Ny305 ho32;have HO307 := M_ (Kd.R_lower (Kd.R_newB (Kd.R_new' ho32 (rl_ HO_3)) (kU_ BK295)) (pS_ (w := w) (g := g) HK)); replace HO_3 := M_ (re_ HO_3 ho32 hb); replace BK295 := M_ (kb_ BK295 hb); replace HI0 := M_ (IsS58.below (iU_ HI0) hb); replace HK := M_ (pB_ HK hb); replace HB := M_ (bS_ HB hb);clear hb ho32;refine hK.out _ _ ⟨bc0_ BK295, bc1_ BK295, bc2_ BK295⟩ (fun hHeld => ?_);clear hK K;refine nM_ (some 44) ?_;refine one_ (i := 0) (N := some 40) #[T,T,F,T,T,F,F,F,F,F,F,F] rfl rfl (one_of HT_.out (by kernel_rfl)) (by decide) (fun K hK => ?_);refine ls_ k31 31 (N := 40) (([] : List (S31))) [] (Reps.none _ _) ?_;intro v300 w33 ho34 hb hg_ hnew_;clear hg_ hnew_;replace ho34 := rN_ Ny299 ho34;have HO301 := M_ (Kd.R_lower (Kd.R_newB (Kd.R_new' (Kd.R_new' ho34 (rl_ HO_3)) (rl_ HO307)) (kU_ BK295)) (pS_ (w := w) (g := g) HK)); replace HO_3 := M_ (re_ HO_3 ho34 hb); replace HO307 := M_ (re_ HO307 ho34 hb); replace BK295 := M_ (kb_ BK295 hb); replace HI0 := M_ (IsS58.below (iU_ HI0) hb); replace HK := M_ (pB_ HK hb); replace HB := M_ (bS_ HB hb);clear hb ho34;refine hK.out _ _ ⟨bc0_ BK295, bc1_ BK295, bc2_ BK295⟩ (fun hHeld => ?_);clear hK K;refine nM_ (some 40) ?_;refine one_ (i := 2) (N := some 42) #[T,T,T,T,T,F,F,F,F,F,F,F] rfl rfl (one_of HT_.out (by kernel_rfl)) (by decide) (fun K hK => ?_);refine Kd.R_append_rows_step k31 w.heap.size (by rfl) (.tmp 40) (.tmp 41) 24 31 (.agg #[(.int .i64 0), (.int .i64 0), (.int .i64 0)]) 24 rfl Tryz.underlying24 info31 rfl (by decide) (by omega) v300 y299 x3_2 _ _ _ (fun k_ => some k_ ≠ (.slice Ao29 x3_2.length co29 : Value).ownBlock ∧ some k_ ≠ (v306 : Value).ownBlock ∧ k_ ≠ gb295) (fun _ => False) rfl rfl ?aO ?aR (fun _ _ h => h) (fun _ h => h.elim) ?aF (Below.refl _ _) ?aS ?aL ?_
               (case aR => exact cU_ (Kd.R_reads' HO_3.out).2.2)
               (case aF => exact (fun k_ hk => ⟨Kd.fresh' (rl_ HO_3) k_ hk, Kd.fresh' (rl_ HO307) k_ hk, Kd.freshB (kU_ BK295) k_ hk⟩))
               (case aO => exact (rU_ (rm_ HO301.out (fun _ hk => ⟨hk.1.1.2, ⟨hk.1.2, hk.2⟩⟩))))
               (case aS => exact (pS_ (w := w) (g := g) HK))
               (case aL => have := LMc25.out; omega)
               intro v303 w35 ho hb hg hat
               rw [← Ny302.out] at ho
               replace HO_3 := M_ (Kd.R_after (ok := (fun k_ => some k_ ≠ (v306 : Value).ownBlock ∧ k_ ≠ gb295)) (rU_ (rm_ HO_3.out (fun _ hk => ⟨⟨hk.1.2, hk.1.1⟩, hk.2⟩))) hg hat); replace BK295 := M_ (kg_ BK295 hg (Kd.R_away HO301.out (fun _ hk => hk.2))); replace HI0 := M_ (IsS58.grown (iU_ HI0) hg (IsS58.own_ne HI0.out HO301.out (by decide))); replace HO307 := M_ (Kd.R_after (ok := (fun k_ => some k_ ≠ (.slice Ao29 x3_2.length co29 : Value).ownBlock ∧ k_ ≠ gb295)) (rU_ (rm_ HO307.out (fun _ hk => ⟨⟨hk.1.1.2, hk.1.2⟩, hk.2⟩))) hg hat); replace HB := M_ (below_weaken (bU_ HB) HL.out hb); replace HK := M_ (KeepBut.trans (pU_ HK) (KeepBut.of_grown hg g) (Kd.R_base2 HO301.out)); have HO304 := M_ (ho); clear HO301;clear ho hb hg hat;refine hK.out _ _ ⟨bc0_ BK295, bc1_ BK295, bc2_ BK295⟩ (fun hHeld => ?_);clear hK K;refine nM_ (some 42) ?_;exact norm_ (by simp only [putAll, Act.put, la_, lb_, lc_]) (hCont (v300, v303, v306) _ ⟨hHeld, (rU_ (rm_ HO304.out (fun _ hk => ⟨hk.2.1, ⟨hk.1, hk.2.2⟩⟩))), (rU_ (rm_ HO307.out (fun _ hk => ⟨hk.2, ⟨hk.1.1, hk.1.2⟩⟩))), (rU_ (rm_ HO_3.out (fun _ hk => ⟨hk.2, ⟨hk.1.1, hk.1.2⟩⟩))), (kU_ BK295), (iU_ HI0), (pU_ HK), (bU_ HB)⟩)
             rintro ⟨v300, v303, v306⟩ w36 ⟨hS_, h0_, h1_, h2_, h3_, h4_, h5_, h6_⟩
             have n0_ : Aside0 (Kd.R k31 31 w36 w.heap.size (fun k_ => some k_ ≠ (v306 : Value).ownBlock ∧ some k_ ≠ (.slice Ao29 x3_2.length co29 : Value).ownBlock ∧ k_ ≠ gb295) v303 y302) := ⟨h0_⟩
             have n1_ : Aside0 (Kd.R k31 31 w36 w.heap.size (fun k_ => some k_ ≠ (v303 : Value).ownBlock ∧ some k_ ≠ (.slice Ao29 x3_2.length co29 : Value).ownBlock ∧ k_ ≠ gb295) v306 y305) := ⟨h1_⟩
             have n2_ : Aside0 (Kd.R k31 31 w36 w.heap.size (fun k_ => some k_ ≠ (v303 : Value).ownBlock ∧ some k_ ≠ (v306 : Value).ownBlock ∧ k_ ≠ gb295) (.slice Ao29 x3_2.length co29) x3_2) := ⟨h2_⟩
             have n3_ : Aside0 (w36.heap[gb295]? = some (.cells #[.int .i64 x296000_13, .int .i64 x296001_13, .int .i64 x296002_13] 31 (0, 0))) := ⟨h3_⟩
             have n4_ : Aside0 (IsS58 w0 w36 g s0_0 x1001_13 x1002_13) := ⟨h4_⟩
             have n5_ : Aside0 (KeepBut w w36 g none) := ⟨h5_⟩
             have n6_ : Aside0 (Below w0.heap.size w0 w36) := ⟨h6_⟩
             clear HO_3;clear BK295;clear HI0;clear HK;clear HB;clear h0_ h1_ h2_ h3_ h4_ h5_ h6_;have HO304 := n0_;have HO307 := n1_;have HO_3 := n2_;have BK295 := n3_;have HI0 := n4_;have HK := n5_;have HB := n6_;clear n0_ n1_ n2_ n3_ n4_ n5_ n6_
             have hHeld : w36.cell? ⟨gb295, 0, none⟩ = some (.int .i64 x296000_13) ∧ w36.cell? ⟨gb295, 1, none⟩ = some (.int .i64 x296001_13) ∧ w36.cell? ⟨gb295, 2, none⟩ = some (.int .i64 x296002_13) := hS_
             obtain ⟨Ao38, co38, eo38⟩ := Kd.R_slice HO307.out
             (first | subst eo38 | (injection eo38 with f1_ f2_ f3_; have f4_ := f1_.symm; have f5_ := f3_.symm; clear f1_ f2_ f3_; subst f4_; subst f5_))
             refine norm_ (a' := ?_) ?_ ?_;rotate_left
             ·simp only [putAll, Act.put, la_, lb_, lc_]
              rfl
             refine one_ (i := 5) (N := some 45) #[T,T,T,T,T,T,F,F,F,F,F,F] rfl rfl (one_of HT_.out (by kernel_rfl)) (by decide) (fun K hK => ?_);refine Kd.R_append_rows_step k31 w.heap.size (by rfl) (.tmp 42) (.tmp 44) 24 31 (.agg #[(.int .i64 0), (.int .i64 0), (.int .i64 0)]) 24 rfl Tryz.underlying24 info31 rfl (by decide) (by omega) v303 y302 y305 _ _ _ (fun k_ => some k_ ≠ (.slice Ao29 x3_2.length co29 : Value).ownBlock ∧ some k_ ≠ (.slice Ao38 y305.length co38 : Value).ownBlock ∧ k_ ≠ gb295) (fun _ => False) rfl rfl ?aO ?aR (fun _ _ h => h) (fun _ h => h.elim) ?aF (Below.refl _ _) ?aS ?aL ?_
             (case aR => exact cU_ (Kd.R_reads' HO307.out).2.2)
             (case aF => exact (fun k_ hk => ⟨Kd.fresh' (rl_ HO_3) k_ hk, Kd.fresh' (rl_ HO307) k_ hk, Kd.freshB (kU_ BK295) k_ hk⟩))
             (case aO => exact (rU_ (rm_ HO304.out (fun _ hk => ⟨hk.2.1, ⟨hk.1, hk.2.2⟩⟩))))
             (case aS => exact (pS_ (w := w) (g := g) HK))
             (case aL => have := LMc26.out; omega)
             intro v309 w37 ho hb hg hat
             rw [← Ny308.out] at ho
             replace HO_3 := M_ (Kd.R_after (ok := (fun k_ => some k_ ≠ (.slice Ao38 y305.length co38 : Value).ownBlock ∧ k_ ≠ gb295)) (rU_ (rm_ HO_3.out (fun _ hk => ⟨⟨hk.2.1, hk.2.2⟩, hk.1⟩))) hg hat); replace BK295 := M_ (kg_ BK295 hg (Kd.R_away HO304.out (fun _ hk => hk.2.2))); replace HI0 := M_ (IsS58.grown (iU_ HI0) hg (IsS58.own_ne HI0.out HO304.out (by decide))); replace HO307 := M_ (Kd.R_after (ok := (fun k_ => some k_ ≠ (.slice Ao29 x3_2.length co29 : Value).ownBlock ∧ k_ ≠ gb295)) (rU_ (rm_ HO307.out (fun _ hk => ⟨⟨hk.2.1, hk.2.2⟩, hk.1⟩))) hg hat); replace HB := M_ (below_weaken (bU_ HB) HL.out hb); replace HK := M_ (KeepBut.trans (pU_ HK) (KeepBut.of_grown hg g) (Kd.R_base2 HO304.out)); have HO310 := M_ (ho); clear HO304;clear ho hb hg hat;obtain ⟨Ao39, co39, eo39⟩ := Kd.R_slice HO310.out
             (first | subst eo39 | (injection eo39 with f1_ f2_ f3_; have f4_ := f1_.symm; have f5_ := f3_.symm; clear f1_ f2_ f3_; subst f4_; subst f5_))
             refine hK.out _ _ ⟨bc0_ BK295, bc1_ BK295, bc2_ BK295⟩ (fun hHeld => ?_);clear hK K;refine nM_ (some 45) ?_;refine one_ (i := 6) (N := some 46) #[T,T,T,T,T,T,T,F,F,F,F,F] rfl rfl (one_of HT_.out (by kernel_rfl)) (by decide) (fun K hK => ?_);refine gS_ Tryz.func45 #[.slice Ao39 y308.length co39] ?_
             with_reducible refine (spec_ntSorted.calls kj13 _ _ y308 t311 _ _ ?side1 ?side2 A27.out).mono ?_
             (case side1 => exact cU_ (Kd.R_reads' HO310.out).2.2)
             (case side2 => exact (Kd.R_reads' HO310.out).2.1)
             rintro e w40 ⟨v313, rfl, ho0, hb⟩;refine ⟨_, rfl, ?_⟩;have HO314 := M_ (Kd.R_lower (Kd.R_newB (Kd.R_new' (Kd.R_new' (Kd.R_new' ho0 (rl_ HO_3)) (rl_ HO307)) (rl_ HO310)) (kU_ BK295)) (pS_ (w := w) (g := g) HK)); replace HO_3 := M_ (re_ HO_3 ho0 hb); replace HO307 := M_ (re_ HO307 ho0 hb); replace HO310 := M_ (re_ HO310 ho0 hb); replace BK295 := M_ (kb_ BK295 hb); replace HI0 := M_ (IsS58.below (iU_ HI0) hb); replace HK := M_ (pB_ HK hb); replace HB := M_ (bS_ HB hb);clear hb ho0;refine hK.out _ _ ⟨bc0_ BK295, bc1_ BK295, bc2_ BK295⟩ (fun hHeld => ?_);clear hK K;refine nM_ (some 46) ?_;refine pR_ (i := 7) (N := some 39) #[T,T,T,T,T,T,T,T,F,F,F,F] ?_;refine pR_ (i := 8) (N := some 47) #[T,T,T,T,T,T,T,T,T,F,F,F] ?_;refine pR_ (i := 9) (N := some 48) #[T,T,T,T,T,T,T,T,T,T,F,F] ?_;refine pR_ (i := 10) (N := some 7) #[T,T,T,T,T,T,T,T,T,T,T,F] ?_;refine pR_ (i := 11) (N := some 8) #[T,T,T,T,T,T,T,T,T,T,T,T] ?_;refine done_ (done_of HT_.out (by kernel_rfl)) ?_
             try go_wp2
             go_roundg kj13
             case measure => have := HJ3.out; have := HK2.out; have := HJ7.out; have := HJ13.out; omega
            ·case rel => exact ⟨(t311), (wrap64 (x5_2 + 1)), (x1001_13), (x1002_13), eD_, H', ⟨by have := HJ3.out; have := HK2.out; have := HJ7.out; have := HJ13.out; omega⟩, ⟨by (with_reducible repeat (first | apply ra_ | apply rn_ | apply rd_)); exact rm_ HO314.out (fun _ hk => trivial)⟩, ⟨iU_ HI0⟩, ⟨pU_ HK⟩, ⟨bU_ HB⟩⟩
            ·case rel => exact ⟨(x3_2), (wrap64 (x5_2 + 1)), (x1001_13), (x1002_13), eD_, H', ⟨by have := HJ3.out; have := HK2.out; have := HJ7.out; have := HJ13.out; omega⟩, ⟨by (with_reducible repeat (first | apply ra_ | apply rn_ | apply rd_)); exact rm_ HO_3.out (fun _ hk => trivial)⟩, ⟨iU_ HI0⟩, ⟨pU_ HK⟩, ⟨bU_ HB⟩⟩
           ·rw [if_neg c26] at H
            exact absurd H (by simp)
          ·rw [if_neg c25] at H
           exact absurd H (by simp)
       ·replace c12 := Bool.eq_false_iff.mpr c12
        subst c12
        rw [if_neg (show ¬ (false = true) by decide)] at H
        simp only [Option.some.injEq, Prod.mk.injEq] at H;obtain ⟨rfl, rfl, rfl⟩ := H
        go_wp2
        go_ret
        exact ⟨_, eR_, rU_ HO_3.out, by (try simp only [show IntKind.u64.wrap 0 = 0 from rfl, Int.add_zero]); exact iU_ HI0, bU_ HB, pU_ HK⟩
end Go.Proofs.YtfpfjnmjekjnhaaGreatDoor.PFnScores
