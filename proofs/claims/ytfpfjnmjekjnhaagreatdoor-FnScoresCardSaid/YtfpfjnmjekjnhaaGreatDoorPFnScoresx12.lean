-- by wip/xprint.py, over the kit's printer
import Derived.Test.YtfpfjnmjekjnhaaGreatDoorPFnScoresx0
import Derived.Test.YtfpfjnmjekjnhaaGreatDoorPFnScoresx2
import Derived.Test.YtfpfjnmjekjnhaaGreatDoorPFnScoresx6
import Derived.Test.YtfpfjnmjekjnhaaGreatDoorPFnScoresx7
import Derived.Test.YtfpfjnmjekjnhaaGreatDoorPFnScoresx11
namespace Go.Proofs.YtfpfjnmjekjnhaaGreatDoor.PFnScores
open Go.RowKit Go.Proofs.YtfpfjnmjekjnhaaGreatDoorW.PrintWords Go.Proofs.YtfpfjnmjekjnhaaGreatDoorW.PrintLast Go.Proofs.YtfpfjnmjekjnhaaGreatDoorW.PrintMore
attribute [local go_sem] max2_int min2_int max_two min_two max_three min_three max_four min_four   -- for this text's walks alone
set_option linter.unusedVariables false
set_option linter.unusedSimpArgs false

def spec_l1Cur_anyScore.l0 : Nat → List (S31) → List Int → Int → Int → Option ((List (S31)) × Int × Int)
 | 0, _, _, _, _ => none
 | k + 1, x3, x1000, x1001, x1002 => if (x3.length : Int) < 31 then (if x3.length < 5864062014805 then (spec_l1Cur_anyScore.l0 k (x3 ++ [(⟨60, wrap64 (2 * (x3.length : Int)), 1⟩ : S31)]) x1000 x1001 x1002) else (none)) else (some (x3, x1001, x1002))
def spec_l1Cur_anyScore.f (k : Nat) (s0_0 : List Int) (s0_1 : Int) (s0_2 : Int) : Option ((List (S31)) × Int × Int) := (spec_l1Cur_score.f k s0_0 s0_1 s0_2).bind fun bt315 => (if (bt315.1.length : Int) > 0 then ((spec_l1Cur_pick.f s0_0 bt315.2.1 bt315.2.2 (bt315.1.length : Int)).bind fun bt320 => (if 0 ≤ bt320.1 then (if bt320.1 < (bt315.1.length : Int) then ((spec_l1Cur_pick.f s0_0 bt320.2.1 bt320.2.2 36).bind fun bt324 => (if bt324.1 = 0 then ((spec_l1Cur_among.f s0_0 bt324.2.1 bt324.2.2 (([23, 24, 96, 97] : List Int))).bind fun bt330 => (some ((bt315.1.set (bt320.1 : Int).toNat (⟨bt330.1, (rd_T31 bt315.1 bt320.1).f1, (rd_T31 bt315.1 bt320.1).f2⟩ : S31)), bt330.2.1, bt330.2.2))) else (if bt324.1 = 1 then ((spec_l1Cur_among.f s0_0 bt324.2.1 bt324.2.2 (([(-1), 0, 999, 1000] : List Int))).bind fun bt337 => (some ((bt315.1.set (bt320.1 : Int).toNat (⟨(rd_T31 bt315.1 bt320.1).f0, bt337.1, (rd_T31 bt315.1 bt320.1).f2⟩ : S31)), bt337.2.1, bt337.2.2))) else (if bt324.1 = 2 then ((spec_l1Cur_among.f s0_0 bt324.2.1 bt324.2.2 (([0, 99, 100] : List Int))).bind fun bt344 => (some ((bt315.1.set (bt320.1 : Int).toNat (⟨(rd_T31 bt315.1 bt320.1).f0, (rd_T31 bt315.1 bt320.1).f1, bt344.1⟩ : S31)), bt344.2.1, bt344.2.2))) else (if bt324.1 = 3 then (if 0 < (bt315.1.length : Int) then (if bt315.1.length < 5864062014805 then (some ((bt315.1 ++ [(⟨(rd_T31 bt315.1 0).f0, (rd_T31 bt315.1 0).f1, (rd_T31 bt315.1 0).f2⟩ : S31)]), bt324.2.1, bt324.2.2)) else (none)) else (none)) else (if bt324.1 = 4 then (spec_l1Cur_anyScore.l0 k ([] : List (S31)) s0_0 bt324.2.1 bt324.2.2) else (some (bt315.1, bt324.2.1, bt324.2.2)))))))) else (none)) else (none))) else (some (bt315.1, bt315.2.1, bt315.2.2)))
theorem spec_l1Cur_anyScore.mono_l : ∀ k, (∀ y0 y1 y2 y3, LeO (spec_l1Cur_anyScore.l0 k y0 y1 y2 y3) (spec_l1Cur_anyScore.l0 (k + 1) y0 y1 y2 y3))
 | 0 => fun _ _ _ _ r h => by simp [spec_l1Cur_anyScore.l0] at h
 | k + 1 => by
  have ih0 := spec_l1Cur_anyScore.mono_l k
  ·intro y0 y1 y2 y3
   unfold spec_l1Cur_anyScore.l0
   have m0_ := @spec_l1Cur_score.mono;exact mo_
theorem spec_l1Cur_anyScore.mono : ∀ a0 a1 a2 k, LeO (spec_l1Cur_anyScore.f k a0 a1 a2) (spec_l1Cur_anyScore.f (k + 1) a0 a1 a2) := by
 intro a0 a1 a2 k;have ih0 := spec_l1Cur_anyScore.mono_l k
 unfold spec_l1Cur_anyScore.f
 have m0_ := @spec_l1Cur_score.mono;exact mo_
set_option maxHeartbeats 8000000 in
set_option maxRecDepth 100000 in
theorem spec_l1Cur_anyScore.calls (k : Nat) (g : Nat) (s0_0 : List Int) (s0_1 : Int) (s0_2 : Int) (r1 : List (S31)) (r2 : Int) (r3 : Int) (w0 w : World) (hI : IsS58 w0 w g s0_0 s0_1 s0_2) (hB : Below w0.heap.size w0 w) (h : spec_l1Cur_anyScore.f k s0_0 s0_1 s0_2 = some (r1, r2, r3)) :
  Calls Tryz.prog 41 #[.pointer (some ⟨g, 0, none⟩)] w fun e w' => ∃ v0_ : Value, e = .returned (v0_) ∧ Kd.R k31 31 w' w.heap.size (fun _ => True) v0_ r1 ∧ IsS58 w0 w' g s0_0 r2 r3 ∧ Below w0.heap.size w0 w' ∧ KeepBut w w' g none := by
 have hu31 := Tryz.underlying31;have HI0 := M_ hI;have GEHI0_ := M_ (IsS58.ge HI0.out);have HK := M_ (KeepBut.refl w g none);have HL := M_ hB.size;clear hI;have HW0 := M_ hB.size;have HB := M_ hB;clear hB
 have H : ((spec_l1Cur_score.f k s0_0 s0_1 s0_2).bind fun bt315 => (if (bt315.1.length : Int) > 0 then ((spec_l1Cur_pick.f s0_0 bt315.2.1 bt315.2.2 (bt315.1.length : Int)).bind fun bt320 => (if 0 ≤ bt320.1 then (if bt320.1 < (bt315.1.length : Int) then ((spec_l1Cur_pick.f s0_0 bt320.2.1 bt320.2.2 36).bind fun bt324 => (if bt324.1 = 0 then ((spec_l1Cur_among.f s0_0 bt324.2.1 bt324.2.2 (([23, 24, 96, 97] : List Int))).bind fun bt330 => (some ((bt315.1.set (bt320.1 : Int).toNat (⟨bt330.1, (rd_T31 bt315.1 bt320.1).f1, (rd_T31 bt315.1 bt320.1).f2⟩ : S31)), bt330.2.1, bt330.2.2))) else (if bt324.1 = 1 then ((spec_l1Cur_among.f s0_0 bt324.2.1 bt324.2.2 (([(-1), 0, 999, 1000] : List Int))).bind fun bt337 => (some ((bt315.1.set (bt320.1 : Int).toNat (⟨(rd_T31 bt315.1 bt320.1).f0, bt337.1, (rd_T31 bt315.1 bt320.1).f2⟩ : S31)), bt337.2.1, bt337.2.2))) else (if bt324.1 = 2 then ((spec_l1Cur_among.f s0_0 bt324.2.1 bt324.2.2 (([0, 99, 100] : List Int))).bind fun bt344 => (some ((bt315.1.set (bt320.1 : Int).toNat (⟨(rd_T31 bt315.1 bt320.1).f0, (rd_T31 bt315.1 bt320.1).f1, bt344.1⟩ : S31)), bt344.2.1, bt344.2.2))) else (if bt324.1 = 3 then (if 0 < (bt315.1.length : Int) then (if bt315.1.length < 5864062014805 then (some ((bt315.1 ++ [(⟨(rd_T31 bt315.1 0).f0, (rd_T31 bt315.1 0).f1, (rd_T31 bt315.1 0).f2⟩ : S31)]), bt324.2.1, bt324.2.2)) else (none)) else (none)) else (if bt324.1 = 4 then (spec_l1Cur_anyScore.l0 k ([] : List (S31)) s0_0 bt324.2.1 bt324.2.2) else (some (bt315.1, bt324.2.1, bt324.2.2)))))))) else (none)) else (none))) else (some (bt315.1, bt315.2.1, bt315.2.2)))) = some (r1, r2, r3) := h
 clear h;replace H := Option.bind_eq_some_iff.mp H;obtain ⟨⟨t315, t318, t319⟩, A20, H⟩ := H;(try dsimp only at H);have A2 := M_ A20;clear A20
 by_cases c3 : (t315.length : Int) > 0
 ·rw [if_pos c3] at H
  have c3b0 : decide (0 < (t315.length : Int)) = true := decide_eq_true c3
  have c3b1 : decide (0 < t315.length) = true := decide_eq_true (by omega)
  clear c3;replace H := Option.bind_eq_some_iff.mp H;obtain ⟨⟨t320, t321, t322⟩, A40, H⟩ := H;(try dsimp only at H);have A4 := M_ A40;clear A40
  by_cases c5 : 0 ≤ t320
  ·rw [if_pos c5] at H
   have c5b0 : decide (0 ≤ t320) = true := decide_eq_true c5
   clear c5
   by_cases c6 : t320 < (t315.length : Int)
   ·rw [if_pos c6] at H
    have c6b0 : decide (t320 < (t315.length : Int)) = true := decide_eq_true c6
    clear c6;replace H := Option.bind_eq_some_iff.mp H;obtain ⟨⟨t324, t325, t326⟩, A70, H⟩ := H;(try dsimp only at H);have A7 := M_ A70;clear A70
    by_cases c8 : t324 = 0
    ·rw [if_pos c8] at H
     have c8b0 : (t324 == 0) = true := beq_iff_eq.mpr c8
     have c8b1 : (t324 != 0) = false := bne_eq_false_iff_eq.mpr c8
     clear c8;obtain ⟨y327, hy327⟩ : ∃ y_ : List Int, y_ = (([23, 24, 96, 97] : List Int)) := ⟨_, rfl⟩
     replace H : ((spec_l1Cur_among.f s0_0 t325 t326 y327).bind fun bt330 => (some ((t315.set (t320 : Int).toNat (⟨bt330.1, (rd_T31 t315 t320).f1, (rd_T31 t315 t320).f2⟩ : S31)), bt330.2.1, bt330.2.2))) = some (r1, r2, r3) := by first | (rw [hy327]; with_reducible exact H) | (have H2_ := (Option.bind_some _ _).symm.trans H; rw [hy327]; with_reducible exact H2_) | (have H2_ := (Option.bind_some _ _).symm.trans H; with_reducible exact H2_) | with_reducible exact H | (rw [hy327]; exact H) | exact H
     have Ny327 := M_ hy327;clear hy327;replace H := Option.bind_eq_some_iff.mp H;obtain ⟨⟨t330, t331, t332⟩, A90, H⟩ := H;(try dsimp only at H);have A9 := M_ A90;clear A90;obtain ⟨y333, hy333⟩ : ∃ y_ : List (S31), y_ = (t315.set (t320 : Int).toNat (⟨t330, (rd_T31 t315 t320).f1, (rd_T31 t315 t320).f2⟩ : S31)) := ⟨_, rfl⟩
     replace H : (some (y333, t331, t332)) = some (r1, r2, r3) := by first | (rw [hy333]; with_reducible exact H) | (have H2_ := (Option.bind_some _ _).symm.trans H; rw [hy333]; with_reducible exact H2_) | (have H2_ := (Option.bind_some _ _).symm.trans H; with_reducible exact H2_) | with_reducible exact H | (rw [hy333]; exact H) | exact H
     have Ny333 := M_ hy333;clear hy333;simp only [Option.some.injEq, Prod.mk.injEq] at H;obtain ⟨rfl, rfl, rfl⟩ := H
     go_enter Tryz.func41, Tryz.ntmps41
     go_wp2_with (first | ((with_reducible refine gc_ 59 ?_); refine gM_ (some 6) Tryz.func59 #[.pointer (some ⟨g, 0, none⟩)] ?_; (with_reducible refine (spec_l1Cur_score.calls k g s0_0 s0_1 s0_2 t315 t318 t319 w0 _ ?side1 ?side2 A2.out).mono ?_); (case side1 => exact iU_ HI0); (case side2 => exact bU_ HB); rintro e w11 ⟨v316, rfl, ho0, hi, hb, hk⟩; refine ⟨_, rfl, ?_⟩; have HO317 := M_ (Kd.R_lower ho0 (pS_ (w := w) (g := g) HK)); replace HK := M_ (pT_ HK hk); replace HB := M_ (hb); replace HI0 := M_ (hi); clear hb hk hi ho0; obtain ⟨Ao12, co12, eo12⟩ := Kd.R_slice HO317.out; subst eo12) | ((with_reducible refine gc_ 42 ?_); refine gM_ (some 14) Tryz.func42 #[.pointer (some ⟨g, 0, none⟩), .int .i64 (t315.length : Int)] ?_; (with_reducible refine (spec_l1Cur_pick.calls g s0_0 t318 t319 (t315.length : Int) t320 t321 t322 w0 _ ?side1 ?side2 A4.out).mono ?_); (case side1 => exact iU_ HI0); (case side2 => exact bU_ HB); rintro e w13 ⟨rfl, hi, hb, hk⟩; refine ⟨_, rfl, ?_⟩; replace HO317 := M_ (ik_ HI0 HO317 hk); replace HK := M_ (pT_ HK hk); replace HB := M_ (hb); replace HI0 := M_ (hi); clear hb hk hi; have p323 : 0 ≤ (t320 : Int) := dT_; have q323 : t320 < (t315.length : Int) := dT_; obtain ⟨ad323, e323, hx323_0, hx323_1, hx323_2⟩ := at_T31 (Kd.R_reads' HO317.out).2.2 t320 p323 q323; cases e323; replace p323 := eq_true p323; replace q323 := eq_true q323) | ((with_reducible refine gc_ 42 ?_); refine gM_ (some 17) Tryz.func42 #[.pointer (some ⟨g, 0, none⟩), .int .i64 36] ?_; (with_reducible refine (spec_l1Cur_pick.calls g s0_0 t321 t322 36 t324 t325 t326 w0 _ ?side1 ?side2 A7.out).mono ?_); (case side1 => exact iU_ HI0); (case side2 => exact bU_ HB); rintro e w14 ⟨rfl, hi, hb, hk⟩; refine ⟨_, rfl, ?_⟩; replace HO317 := M_ (ik_ HI0 HO317 hk); replace HK := M_ (pT_ HK hk); replace HB := M_ (hb); replace HI0 := M_ (hi); clear hb hk hi) | ((with_reducible refine gate_dst (N := 22) rfl ?_); refine lt_ (Kd.int .i64) 3 (N := 22) (([23, 24, 96, 97] : List Int)) [.int .i64 23, .int .i64 24, .int .i64 96, .int .i64 97] ri_ ?_; intro v328 w15 ho16 hb hg_ hnew_; clear hg_ hnew_; replace ho16 := rN_ Ny327 ho16; replace HO317 := M_ (rB_ HO317 hb); have HO329 := M_ (Kd.R_lower ho16 (pS_ (w := w) (g := g) HK)); replace HI0 := M_ (IsS58.below (iU_ HI0) hb); replace HK := M_ (pB_ HK hb); replace HB := M_ (bS_ HB hb); clear hb ho16; obtain ⟨Ao17, co17, eo17⟩ := Kd.R_slice HO329.out; subst eo17) | ((with_reducible refine gc_ 50 ?_); refine gM_ (some 23) Tryz.func50 #[.pointer (some ⟨g, 0, none⟩), .slice Ao17 y327.length co17] ?_; (with_reducible refine (spec_l1Cur_among.calls g s0_0 t325 t326 _ _ y327 t330 t331 t332 w0 _ ?side1 ?side2 ?side3 ?side4 ?side5 A9.out).mono ?_); (case side1 => exact iU_ HI0); (case side2 => exact bU_ HB); (case side3 => exact cU_ (Kd.R_reads' HO329.out).2.2); (case side4 => exact (Kd.R_reads' HO329.out).2.1); (case side5 => exact far_slice (IsS58.own_ne HI0.out HO329.out (by decide))); rintro e w18 ⟨rfl, hi, hb, hk⟩; refine ⟨_, rfl, ?_⟩; replace HO317 := M_ (ik_ HI0 HO317 hk); replace HO329 := M_ (ik_ HI0 HO329 hk); replace HK := M_ (pT_ HK hk); replace HB := M_ (hb); replace HI0 := M_ (hi); clear hb hk hi; have p10 : 0 ≤ (t320 : Int) := dT_; have q10 : (t320 : Int) < ((t315.length : Int) : Int) := dT_; obtain ⟨go10, co10, eo10, gb10, gl10, cl10, HG10⟩ := Kd.R_form HO317.out (by omega); (first | cases eo10 | (injection eo10 with ea_ en_ ec_; (first | subst ea_ | (injection ea_ with ea_; subst ea_)); subst ec_; clear en_)); have GB10 := M_ gb10; have GG10 := M_ HG10; clear gb10 gl10 HG10; (first | simp only [add_plain] at hx323_0 | skip); (first | simp only [add_plain] at hx323_1 | skip); (first | simp only [add_plain] at hx323_2 | skip); obtain ⟨ce10, hcl10, hM10, hcc10, hfr10⟩ := Kd.R_elem HO317.out z31 (t320 : Int) p10 q10; obtain rfl := k31_openM hM10; have hx10_0 : w18.cell? ⟨go10, (t320 : Int).toNat * 3, none⟩ = some (.int .i64 ((rd_T31 t315 t320).f0)) := hcc10 0 _ rfl; have hx10_1 : w18.cell? ⟨go10, (t320 : Int).toNat * 3 + 1, none⟩ = some (.int .i64 ((rd_T31 t315 t320).f1)) := hcc10 1 _ rfl; have hx10_2 : w18.cell? ⟨go10, (t320 : Int).toNat * 3 + 2, none⟩ = some (.int .i64 ((rd_T31 t315 t320).f2)) := hcc10 2 _ rfl; have hf10_0 : w18.frozen? ⟨go10, (t320 : Int).toNat * 3, none⟩ = false := hfr10 0; have hf10_1 : w18.frozen? ⟨go10, (t320 : Int).toNat * 3 + 1, none⟩ = false := hfr10 1; have hf10_2 : w18.frozen? ⟨go10, (t320 : Int).toNat * 3 + 2, none⟩ = false := hfr10 2; clear hcl10 hcc10 hfr10 hM10; replace p10 := eq_true p10; replace q10 := eq_true q10; have HX19 := M_ (show Kd.R k31 31 w18 w.heap.size (fun _ => True) (.slice (some ⟨go10, 0, none⟩) t315.length co12) t315 from (rU_ HO317.out)); obtain ⟨ce19, hcl19, hM19, hcc19, hfr19⟩ := Kd.R_elem HX19.out z31 (t320 : Int) (dT_) (by have h_ : (t320 : Int) < ((t315.length : Int) : Int) := dT_; first | exact h_ | (have e_ := (Kd.R_reads' HO317.out).1; omega) | simpa using h_); obtain rfl := k31_openM hM19; have HP19 := Kd.R_seg HX19.out (t320 : Int) (dT_) (by have h_ : (t320 : Int) < ((t315.length : Int) : Int) := dT_; first | exact h_ | (have e_ := (Kd.R_reads' HO317.out).1; omega) | simpa using h_) (seg := [.int .i64 t330]) (j := 0) hcl19 hcc19 (show 1 ≤ 3 from by decide) (x' := (⟨t330, (rd_T31 t315 t320).f1, (rd_T31 t315 t320).f2⟩ : S31)) (k31_mkM _ _ _ (⟨t330, (rd_T31 t315 t320).f1, (rd_T31 t315 t320).f2⟩ : S31) ) (fun _ hk => hk); have hx19_0 := hcc19 0 _ rfl; (try simp only [show (k31).sz = 3 from rfl, Nat.mul_one, Nat.add_zero] at hx19_0); have hf19_0 := hfr19 0; (try simp only [show (k31).sz = 3 from rfl, Nat.mul_one, Nat.add_zero] at hf19_0); clear hcl19 hcc19 hfr19 hM19) | ((with_reducible refine gate_store (t := 3) (p := 25) rfl ?_); refine store_event (t := 3) (p := 25) (v := ?vo_w20) (w1 := (w18.setCell ⟨go10, (t320 : Int).toNat * 3, none⟩ (.int .i64 t330))) ?hg ?ho ?hn ?hr ?_; (case ho => rfl); (case hg => rfl); (case hn => rfl); (case hr => first | (go_simp; done) | (go_simp; rfl)); intro w20 hw; have hg : w18.grownBy w20 (some go10) := (by rw [hw]; exact HP19.2); have hp_ : Kd.R k31 31 w20 w.heap.size (fun _ => True) (.slice (some ⟨go10, 0, none⟩) t315.length co12) y333 := (by rw [hw, Ny333.out]; exact HP19.1); clear HP19; replace HI0 := M_ (IsS58.grown (iU_ HI0) hg (IsS58.own_ne HI0.out HO317.out (by decide))); replace HO329 := M_ (Kd.R_over' (v := (.slice (some ⟨go10, 0, none⟩) t315.length co12)) (rU_ HO329.out) (Kd.R_typed HO317.out) (by decide) hg); replace HB := M_ ((by rw [hw]; exact bs_ (HB.out) (Nat.le_trans HL.out GB10.out) : Below w0.heap.size w0 w20)); replace HK := M_ (KeepBut.trans (pU_ HK) (KeepBut.of_grown hg g) (Kd.R_base2 HO317.out)); replace HO317 := M_ (hp_); clear hg hw hp_))
     go_ret
     exact ⟨_, eR_, rU_ HO317.out, by (try simp only [show IntKind.u64.wrap 0 = 0 from rfl, Int.add_zero]); exact iU_ HI0, bU_ HB, pU_ HK⟩
    ·rw [if_neg c8] at H
     have c8b0 : (t324 == 0) = false := beq_eq_false_iff_ne.mpr c8
     have c8b1 : (t324 != 0) = true := bne_iff_ne.mpr c8
     by_cases c21 : t324 = 1
     ·rw [if_pos c21] at H
      have c21b0 : (t324 == 1) = true := beq_iff_eq.mpr c21
      have c21b1 : (t324 != 1) = false := bne_eq_false_iff_eq.mpr c21
      clear c21;obtain ⟨y334, hy334⟩ : ∃ y_ : List Int, y_ = (([(-1), 0, 999, 1000] : List Int)) := ⟨_, rfl⟩
      replace H : ((spec_l1Cur_among.f s0_0 t325 t326 y334).bind fun bt337 => (some ((t315.set (t320 : Int).toNat (⟨(rd_T31 t315 t320).f0, bt337.1, (rd_T31 t315 t320).f2⟩ : S31)), bt337.2.1, bt337.2.2))) = some (r1, r2, r3) := by first | (rw [hy334]; with_reducible exact H) | (have H2_ := (Option.bind_some _ _).symm.trans H; rw [hy334]; with_reducible exact H2_) | (have H2_ := (Option.bind_some _ _).symm.trans H; with_reducible exact H2_) | with_reducible exact H | (rw [hy334]; exact H) | exact H
      have Ny334 := M_ hy334;clear hy334;replace H := Option.bind_eq_some_iff.mp H;obtain ⟨⟨t337, t338, t339⟩, A220, H⟩ := H;(try dsimp only at H);have A22 := M_ A220;clear A220;obtain ⟨y340, hy340⟩ : ∃ y_ : List (S31), y_ = (t315.set (t320 : Int).toNat (⟨(rd_T31 t315 t320).f0, t337, (rd_T31 t315 t320).f2⟩ : S31)) := ⟨_, rfl⟩
      replace H : (some (y340, t338, t339)) = some (r1, r2, r3) := by first | (rw [hy340]; with_reducible exact H) | (have H2_ := (Option.bind_some _ _).symm.trans H; rw [hy340]; with_reducible exact H2_) | (have H2_ := (Option.bind_some _ _).symm.trans H; with_reducible exact H2_) | with_reducible exact H | (rw [hy340]; exact H) | exact H
      have Ny340 := M_ hy340;clear hy340;simp only [Option.some.injEq, Prod.mk.injEq] at H;obtain ⟨rfl, rfl, rfl⟩ := H
      go_enter Tryz.func41, Tryz.ntmps41
      go_wp2_with (first | ((with_reducible refine gc_ 59 ?_); refine gM_ (some 6) Tryz.func59 #[.pointer (some ⟨g, 0, none⟩)] ?_; (with_reducible refine (spec_l1Cur_score.calls k g s0_0 s0_1 s0_2 t315 t318 t319 w0 _ ?side1 ?side2 A2.out).mono ?_); (case side1 => exact iU_ HI0); (case side2 => exact bU_ HB); rintro e w24 ⟨v316, rfl, ho0, hi, hb, hk⟩; refine ⟨_, rfl, ?_⟩; have HO317 := M_ (Kd.R_lower ho0 (pS_ (w := w) (g := g) HK)); replace HK := M_ (pT_ HK hk); replace HB := M_ (hb); replace HI0 := M_ (hi); clear hb hk hi ho0; obtain ⟨Ao25, co25, eo25⟩ := Kd.R_slice HO317.out; subst eo25) | ((with_reducible refine gc_ 42 ?_); refine gM_ (some 14) Tryz.func42 #[.pointer (some ⟨g, 0, none⟩), .int .i64 (t315.length : Int)] ?_; (with_reducible refine (spec_l1Cur_pick.calls g s0_0 t318 t319 (t315.length : Int) t320 t321 t322 w0 _ ?side1 ?side2 A4.out).mono ?_); (case side1 => exact iU_ HI0); (case side2 => exact bU_ HB); rintro e w26 ⟨rfl, hi, hb, hk⟩; refine ⟨_, rfl, ?_⟩; replace HO317 := M_ (ik_ HI0 HO317 hk); replace HK := M_ (pT_ HK hk); replace HB := M_ (hb); replace HI0 := M_ (hi); clear hb hk hi; have p323 : 0 ≤ (t320 : Int) := dT_; have q323 : t320 < (t315.length : Int) := dT_; obtain ⟨ad323, e323, hx323_0, hx323_1, hx323_2⟩ := at_T31 (Kd.R_reads' HO317.out).2.2 t320 p323 q323; cases e323; replace p323 := eq_true p323; replace q323 := eq_true q323) | ((with_reducible refine gc_ 42 ?_); refine gM_ (some 17) Tryz.func42 #[.pointer (some ⟨g, 0, none⟩), .int .i64 36] ?_; (with_reducible refine (spec_l1Cur_pick.calls g s0_0 t321 t322 36 t324 t325 t326 w0 _ ?side1 ?side2 A7.out).mono ?_); (case side1 => exact iU_ HI0); (case side2 => exact bU_ HB); rintro e w27 ⟨rfl, hi, hb, hk⟩; refine ⟨_, rfl, ?_⟩; replace HO317 := M_ (ik_ HI0 HO317 hk); replace HK := M_ (pT_ HK hk); replace HB := M_ (hb); replace HI0 := M_ (hi); clear hb hk hi) | ((with_reducible refine gate_dst (N := 30) rfl ?_); refine lt_ (Kd.int .i64) 3 (N := 30) (([(-1), 0, 999, 1000] : List Int)) [.int .i64 (-1), .int .i64 0, .int .i64 999, .int .i64 1000] ri_ ?_; intro v335 w28 ho29 hb hg_ hnew_; clear hg_ hnew_; replace ho29 := rN_ Ny334 ho29; replace HO317 := M_ (rB_ HO317 hb); have HO336 := M_ (Kd.R_lower ho29 (pS_ (w := w) (g := g) HK)); replace HI0 := M_ (IsS58.below (iU_ HI0) hb); replace HK := M_ (pB_ HK hb); replace HB := M_ (bS_ HB hb); clear hb ho29; obtain ⟨Ao30, co30, eo30⟩ := Kd.R_slice HO336.out; subst eo30) | ((with_reducible refine gc_ 50 ?_); refine gM_ (some 31) Tryz.func50 #[.pointer (some ⟨g, 0, none⟩), .slice Ao30 y334.length co30] ?_; (with_reducible refine (spec_l1Cur_among.calls g s0_0 t325 t326 _ _ y334 t337 t338 t339 w0 _ ?side1 ?side2 ?side3 ?side4 ?side5 A22.out).mono ?_); (case side1 => exact iU_ HI0); (case side2 => exact bU_ HB); (case side3 => exact cU_ (Kd.R_reads' HO336.out).2.2); (case side4 => exact (Kd.R_reads' HO336.out).2.1); (case side5 => exact far_slice (IsS58.own_ne HI0.out HO336.out (by decide))); rintro e w31 ⟨rfl, hi, hb, hk⟩; refine ⟨_, rfl, ?_⟩; replace HO317 := M_ (ik_ HI0 HO317 hk); replace HO336 := M_ (ik_ HI0 HO336 hk); replace HK := M_ (pT_ HK hk); replace HB := M_ (hb); replace HI0 := M_ (hi); clear hb hk hi; have p23 : 0 ≤ (t320 : Int) := dT_; have q23 : (t320 : Int) < ((t315.length : Int) : Int) := dT_; obtain ⟨go23, co23, eo23, gb23, gl23, cl23, HG23⟩ := Kd.R_form HO317.out (by omega); (first | cases eo23 | (injection eo23 with ea_ en_ ec_; (first | subst ea_ | (injection ea_ with ea_; subst ea_)); subst ec_; clear en_)); have GB23 := M_ gb23; have GG23 := M_ HG23; clear gb23 gl23 HG23; (first | simp only [add_plain] at hx323_0 | skip); (first | simp only [add_plain] at hx323_1 | skip); (first | simp only [add_plain] at hx323_2 | skip); obtain ⟨ce23, hcl23, hM23, hcc23, hfr23⟩ := Kd.R_elem HO317.out z31 (t320 : Int) p23 q23; obtain rfl := k31_openM hM23; have hx23_0 : w31.cell? ⟨go23, (t320 : Int).toNat * 3, none⟩ = some (.int .i64 ((rd_T31 t315 t320).f0)) := hcc23 0 _ rfl; have hx23_1 : w31.cell? ⟨go23, (t320 : Int).toNat * 3 + 1, none⟩ = some (.int .i64 ((rd_T31 t315 t320).f1)) := hcc23 1 _ rfl; have hx23_2 : w31.cell? ⟨go23, (t320 : Int).toNat * 3 + 2, none⟩ = some (.int .i64 ((rd_T31 t315 t320).f2)) := hcc23 2 _ rfl; have hf23_0 : w31.frozen? ⟨go23, (t320 : Int).toNat * 3, none⟩ = false := hfr23 0; have hf23_1 : w31.frozen? ⟨go23, (t320 : Int).toNat * 3 + 1, none⟩ = false := hfr23 1; have hf23_2 : w31.frozen? ⟨go23, (t320 : Int).toNat * 3 + 2, none⟩ = false := hfr23 2; clear hcl23 hcc23 hfr23 hM23; replace p23 := eq_true p23; replace q23 := eq_true q23; have HX32 := M_ (show Kd.R k31 31 w31 w.heap.size (fun _ => True) (.slice (some ⟨go23, 0, none⟩) t315.length co25) t315 from (rU_ HO317.out)); obtain ⟨ce32, hcl32, hM32, hcc32, hfr32⟩ := Kd.R_elem HX32.out z31 (t320 : Int) (dT_) (by have h_ : (t320 : Int) < ((t315.length : Int) : Int) := dT_; first | exact h_ | (have e_ := (Kd.R_reads' HO317.out).1; omega) | simpa using h_); obtain rfl := k31_openM hM32; have HP32 := Kd.R_seg HX32.out (t320 : Int) (dT_) (by have h_ : (t320 : Int) < ((t315.length : Int) : Int) := dT_; first | exact h_ | (have e_ := (Kd.R_reads' HO317.out).1; omega) | simpa using h_) (seg := [.int .i64 t337]) (j := 1) hcl32 hcc32 (show 2 ≤ 3 from by decide) (x' := (⟨(rd_T31 t315 t320).f0, t337, (rd_T31 t315 t320).f2⟩ : S31)) (k31_mkM _ _ _ (⟨(rd_T31 t315 t320).f0, t337, (rd_T31 t315 t320).f2⟩ : S31) ) (fun _ hk => hk); have hx32_1 := hcc32 1 _ rfl; (try simp only [show (k31).sz = 3 from rfl, Nat.mul_one, Nat.add_zero] at hx32_1); have hf32_1 := hfr32 1; (try simp only [show (k31).sz = 3 from rfl, Nat.mul_one, Nat.add_zero] at hf32_1); clear hcl32 hcc32 hfr32 hM32) | ((with_reducible refine gate_store (t := 3) (p := 33) rfl ?_); refine store_event (t := 3) (p := 33) (v := ?vo_w33) (w1 := (w31.setCell ⟨go23, (t320 : Int).toNat * 3 + 1, none⟩ (.int .i64 t337))) ?hg ?ho ?hn ?hr ?_; (case ho => rfl); (case hg => rfl); (case hn => rfl); (case hr => first | (go_simp; done) | (go_simp; rfl)); intro w33 hw; have hg : w31.grownBy w33 (some go23) := (by rw [hw]; exact HP32.2); have hp_ : Kd.R k31 31 w33 w.heap.size (fun _ => True) (.slice (some ⟨go23, 0, none⟩) t315.length co25) y340 := (by rw [hw, Ny340.out]; exact HP32.1); clear HP32; replace HI0 := M_ (IsS58.grown (iU_ HI0) hg (IsS58.own_ne HI0.out HO317.out (by decide))); replace HO336 := M_ (Kd.R_over' (v := (.slice (some ⟨go23, 0, none⟩) t315.length co25)) (rU_ HO336.out) (Kd.R_typed HO317.out) (by decide) hg); replace HB := M_ ((by rw [hw]; exact bs_ (HB.out) (Nat.le_trans HL.out GB23.out) : Below w0.heap.size w0 w33)); replace HK := M_ (KeepBut.trans (pU_ HK) (KeepBut.of_grown hg g) (Kd.R_base2 HO317.out)); replace HO317 := M_ (hp_); clear hg hw hp_))
      go_ret
      exact ⟨_, eR_, rU_ HO317.out, by (try simp only [show IntKind.u64.wrap 0 = 0 from rfl, Int.add_zero]); exact iU_ HI0, bU_ HB, pU_ HK⟩
     ·rw [if_neg c21] at H
      have c21b0 : (t324 == 1) = false := beq_eq_false_iff_ne.mpr c21
      have c21b1 : (t324 != 1) = true := bne_iff_ne.mpr c21
      by_cases c34 : t324 = 2
      ·rw [if_pos c34] at H
       have c34b0 : (t324 == 2) = true := beq_iff_eq.mpr c34
       have c34b1 : (t324 != 2) = false := bne_eq_false_iff_eq.mpr c34
       clear c34;obtain ⟨y341, hy341⟩ : ∃ y_ : List Int, y_ = (([0, 99, 100] : List Int)) := ⟨_, rfl⟩
       replace H : ((spec_l1Cur_among.f s0_0 t325 t326 y341).bind fun bt344 => (some ((t315.set (t320 : Int).toNat (⟨(rd_T31 t315 t320).f0, (rd_T31 t315 t320).f1, bt344.1⟩ : S31)), bt344.2.1, bt344.2.2))) = some (r1, r2, r3) := by first | (rw [hy341]; with_reducible exact H) | (have H2_ := (Option.bind_some _ _).symm.trans H; rw [hy341]; with_reducible exact H2_) | (have H2_ := (Option.bind_some _ _).symm.trans H; with_reducible exact H2_) | with_reducible exact H | (rw [hy341]; exact H) | exact H
       have Ny341 := M_ hy341;clear hy341;replace H := Option.bind_eq_some_iff.mp H;obtain ⟨⟨t344, t345, t346⟩, A350, H⟩ := H;(try dsimp only at H);have A35 := M_ A350;clear A350;obtain ⟨y347, hy347⟩ : ∃ y_ : List (S31), y_ = (t315.set (t320 : Int).toNat (⟨(rd_T31 t315 t320).f0, (rd_T31 t315 t320).f1, t344⟩ : S31)) := ⟨_, rfl⟩
       replace H : (some (y347, t345, t346)) = some (r1, r2, r3) := by first | (rw [hy347]; with_reducible exact H) | (have H2_ := (Option.bind_some _ _).symm.trans H; rw [hy347]; with_reducible exact H2_) | (have H2_ := (Option.bind_some _ _).symm.trans H; with_reducible exact H2_) | with_reducible exact H | (rw [hy347]; exact H) | exact H
       have Ny347 := M_ hy347;clear hy347;simp only [Option.some.injEq, Prod.mk.injEq] at H;obtain ⟨rfl, rfl, rfl⟩ := H
       go_enter Tryz.func41, Tryz.ntmps41
       go_wp2_with (first | ((with_reducible refine gc_ 59 ?_); refine gM_ (some 6) Tryz.func59 #[.pointer (some ⟨g, 0, none⟩)] ?_; (with_reducible refine (spec_l1Cur_score.calls k g s0_0 s0_1 s0_2 t315 t318 t319 w0 _ ?side1 ?side2 A2.out).mono ?_); (case side1 => exact iU_ HI0); (case side2 => exact bU_ HB); rintro e w37 ⟨v316, rfl, ho0, hi, hb, hk⟩; refine ⟨_, rfl, ?_⟩; have HO317 := M_ (Kd.R_lower ho0 (pS_ (w := w) (g := g) HK)); replace HK := M_ (pT_ HK hk); replace HB := M_ (hb); replace HI0 := M_ (hi); clear hb hk hi ho0; obtain ⟨Ao38, co38, eo38⟩ := Kd.R_slice HO317.out; subst eo38) | ((with_reducible refine gc_ 42 ?_); refine gM_ (some 14) Tryz.func42 #[.pointer (some ⟨g, 0, none⟩), .int .i64 (t315.length : Int)] ?_; (with_reducible refine (spec_l1Cur_pick.calls g s0_0 t318 t319 (t315.length : Int) t320 t321 t322 w0 _ ?side1 ?side2 A4.out).mono ?_); (case side1 => exact iU_ HI0); (case side2 => exact bU_ HB); rintro e w39 ⟨rfl, hi, hb, hk⟩; refine ⟨_, rfl, ?_⟩; replace HO317 := M_ (ik_ HI0 HO317 hk); replace HK := M_ (pT_ HK hk); replace HB := M_ (hb); replace HI0 := M_ (hi); clear hb hk hi; have p323 : 0 ≤ (t320 : Int) := dT_; have q323 : t320 < (t315.length : Int) := dT_; obtain ⟨ad323, e323, hx323_0, hx323_1, hx323_2⟩ := at_T31 (Kd.R_reads' HO317.out).2.2 t320 p323 q323; cases e323; replace p323 := eq_true p323; replace q323 := eq_true q323) | ((with_reducible refine gc_ 42 ?_); refine gM_ (some 17) Tryz.func42 #[.pointer (some ⟨g, 0, none⟩), .int .i64 36] ?_; (with_reducible refine (spec_l1Cur_pick.calls g s0_0 t321 t322 36 t324 t325 t326 w0 _ ?side1 ?side2 A7.out).mono ?_); (case side1 => exact iU_ HI0); (case side2 => exact bU_ HB); rintro e w40 ⟨rfl, hi, hb, hk⟩; refine ⟨_, rfl, ?_⟩; replace HO317 := M_ (ik_ HI0 HO317 hk); replace HK := M_ (pT_ HK hk); replace HB := M_ (hb); replace HI0 := M_ (hi); clear hb hk hi) | ((with_reducible refine gate_dst (N := 38) rfl ?_); refine lt_ (Kd.int .i64) 3 (N := 38) (([0, 99, 100] : List Int)) [.int .i64 0, .int .i64 99, .int .i64 100] ri_ ?_; intro v342 w41 ho42 hb hg_ hnew_; clear hg_ hnew_; replace ho42 := rN_ Ny341 ho42; replace HO317 := M_ (rB_ HO317 hb); have HO343 := M_ (Kd.R_lower ho42 (pS_ (w := w) (g := g) HK)); replace HI0 := M_ (IsS58.below (iU_ HI0) hb); replace HK := M_ (pB_ HK hb); replace HB := M_ (bS_ HB hb); clear hb ho42; obtain ⟨Ao43, co43, eo43⟩ := Kd.R_slice HO343.out; subst eo43) | ((with_reducible refine gc_ 50 ?_); refine gM_ (some 39) Tryz.func50 #[.pointer (some ⟨g, 0, none⟩), .slice Ao43 y341.length co43] ?_; (with_reducible refine (spec_l1Cur_among.calls g s0_0 t325 t326 _ _ y341 t344 t345 t346 w0 _ ?side1 ?side2 ?side3 ?side4 ?side5 A35.out).mono ?_); (case side1 => exact iU_ HI0); (case side2 => exact bU_ HB); (case side3 => exact cU_ (Kd.R_reads' HO343.out).2.2); (case side4 => exact (Kd.R_reads' HO343.out).2.1); (case side5 => exact far_slice (IsS58.own_ne HI0.out HO343.out (by decide))); rintro e w44 ⟨rfl, hi, hb, hk⟩; refine ⟨_, rfl, ?_⟩; replace HO317 := M_ (ik_ HI0 HO317 hk); replace HO343 := M_ (ik_ HI0 HO343 hk); replace HK := M_ (pT_ HK hk); replace HB := M_ (hb); replace HI0 := M_ (hi); clear hb hk hi; have p36 : 0 ≤ (t320 : Int) := dT_; have q36 : (t320 : Int) < ((t315.length : Int) : Int) := dT_; obtain ⟨go36, co36, eo36, gb36, gl36, cl36, HG36⟩ := Kd.R_form HO317.out (by omega); (first | cases eo36 | (injection eo36 with ea_ en_ ec_; (first | subst ea_ | (injection ea_ with ea_; subst ea_)); subst ec_; clear en_)); have GB36 := M_ gb36; have GG36 := M_ HG36; clear gb36 gl36 HG36; (first | simp only [add_plain] at hx323_0 | skip); (first | simp only [add_plain] at hx323_1 | skip); (first | simp only [add_plain] at hx323_2 | skip); obtain ⟨ce36, hcl36, hM36, hcc36, hfr36⟩ := Kd.R_elem HO317.out z31 (t320 : Int) p36 q36; obtain rfl := k31_openM hM36; have hx36_0 : w44.cell? ⟨go36, (t320 : Int).toNat * 3, none⟩ = some (.int .i64 ((rd_T31 t315 t320).f0)) := hcc36 0 _ rfl; have hx36_1 : w44.cell? ⟨go36, (t320 : Int).toNat * 3 + 1, none⟩ = some (.int .i64 ((rd_T31 t315 t320).f1)) := hcc36 1 _ rfl; have hx36_2 : w44.cell? ⟨go36, (t320 : Int).toNat * 3 + 2, none⟩ = some (.int .i64 ((rd_T31 t315 t320).f2)) := hcc36 2 _ rfl; have hf36_0 : w44.frozen? ⟨go36, (t320 : Int).toNat * 3, none⟩ = false := hfr36 0; have hf36_1 : w44.frozen? ⟨go36, (t320 : Int).toNat * 3 + 1, none⟩ = false := hfr36 1; have hf36_2 : w44.frozen? ⟨go36, (t320 : Int).toNat * 3 + 2, none⟩ = false := hfr36 2; clear hcl36 hcc36 hfr36 hM36; replace p36 := eq_true p36; replace q36 := eq_true q36; have HX45 := M_ (show Kd.R k31 31 w44 w.heap.size (fun _ => True) (.slice (some ⟨go36, 0, none⟩) t315.length co38) t315 from (rU_ HO317.out)); obtain ⟨ce45, hcl45, hM45, hcc45, hfr45⟩ := Kd.R_elem HX45.out z31 (t320 : Int) (dT_) (by have h_ : (t320 : Int) < ((t315.length : Int) : Int) := dT_; first | exact h_ | (have e_ := (Kd.R_reads' HO317.out).1; omega) | simpa using h_); obtain rfl := k31_openM hM45; have HP45 := Kd.R_seg HX45.out (t320 : Int) (dT_) (by have h_ : (t320 : Int) < ((t315.length : Int) : Int) := dT_; first | exact h_ | (have e_ := (Kd.R_reads' HO317.out).1; omega) | simpa using h_) (seg := [.int .i64 t344]) (j := 2) hcl45 hcc45 (show 3 ≤ 3 from by decide) (x' := (⟨(rd_T31 t315 t320).f0, (rd_T31 t315 t320).f1, t344⟩ : S31)) (k31_mkM _ _ _ (⟨(rd_T31 t315 t320).f0, (rd_T31 t315 t320).f1, t344⟩ : S31) ) (fun _ hk => hk); have hx45_2 := hcc45 2 _ rfl; (try simp only [show (k31).sz = 3 from rfl, Nat.mul_one, Nat.add_zero] at hx45_2); have hf45_2 := hfr45 2; (try simp only [show (k31).sz = 3 from rfl, Nat.mul_one, Nat.add_zero] at hf45_2); clear hcl45 hcc45 hfr45 hM45) | ((with_reducible refine gate_store (t := 3) (p := 41) rfl ?_); refine store_event (t := 3) (p := 41) (v := ?vo_w46) (w1 := (w44.setCell ⟨go36, (t320 : Int).toNat * 3 + 2, none⟩ (.int .i64 t344))) ?hg ?ho ?hn ?hr ?_; (case ho => rfl); (case hg => rfl); (case hn => rfl); (case hr => first | (go_simp; done) | (go_simp; rfl)); intro w46 hw; have hg : w44.grownBy w46 (some go36) := (by rw [hw]; exact HP45.2); have hp_ : Kd.R k31 31 w46 w.heap.size (fun _ => True) (.slice (some ⟨go36, 0, none⟩) t315.length co38) y347 := (by rw [hw, Ny347.out]; exact HP45.1); clear HP45; replace HI0 := M_ (IsS58.grown (iU_ HI0) hg (IsS58.own_ne HI0.out HO317.out (by decide))); replace HO343 := M_ (Kd.R_over' (v := (.slice (some ⟨go36, 0, none⟩) t315.length co38)) (rU_ HO343.out) (Kd.R_typed HO317.out) (by decide) hg); replace HB := M_ ((by rw [hw]; exact bs_ (HB.out) (Nat.le_trans HL.out GB36.out) : Below w0.heap.size w0 w46)); replace HK := M_ (KeepBut.trans (pU_ HK) (KeepBut.of_grown hg g) (Kd.R_base2 HO317.out)); replace HO317 := M_ (hp_); clear hg hw hp_))
       go_ret
       exact ⟨_, eR_, rU_ HO317.out, by (try simp only [show IntKind.u64.wrap 0 = 0 from rfl, Int.add_zero]); exact iU_ HI0, bU_ HB, pU_ HK⟩
      ·rw [if_neg c34] at H
       have c34b0 : (t324 == 2) = false := beq_eq_false_iff_ne.mpr c34
       have c34b1 : (t324 != 2) = true := bne_iff_ne.mpr c34
       by_cases c47 : t324 = 3
       ·rw [if_pos c47] at H
        have c47b0 : (t324 == 3) = true := beq_iff_eq.mpr c47
        have c47b1 : (t324 != 3) = false := bne_eq_false_iff_eq.mpr c47
        clear c47
        by_cases c48 : 0 < (t315.length : Int)
        ·rw [if_pos c48] at H
         have c48b0 : decide (0 < (t315.length : Int)) = true := decide_eq_true c48
         have c48b1 : decide (0 < t315.length) = true := decide_eq_true (by omega)
         clear c48
         by_cases c49 : t315.length < 5864062014805
         ·rw [if_pos c49] at H
          have LMc49 := M_ c49;clear c49;obtain ⟨y349, hy349⟩ : ∃ y_ : List (S31), y_ = (t315 ++ [(⟨(rd_T31 t315 0).f0, (rd_T31 t315 0).f1, (rd_T31 t315 0).f2⟩ : S31)]) := ⟨_, rfl⟩
          replace H : (some (y349, t325, t326)) = some (r1, r2, r3) := by first | (rw [hy349]; with_reducible exact H) | (have H2_ := (Option.bind_some _ _).symm.trans H; rw [hy349]; with_reducible exact H2_) | (have H2_ := (Option.bind_some _ _).symm.trans H; with_reducible exact H2_) | with_reducible exact H | (rw [hy349]; exact H) | exact H
          have Ny349 := M_ hy349;clear hy349;simp only [Option.some.injEq, Prod.mk.injEq] at H;obtain ⟨rfl, rfl, rfl⟩ := H
          go_enter Tryz.func41, Tryz.ntmps41
          go_wp2_with (first | ((with_reducible refine gc_ 59 ?_); refine gM_ (some 6) Tryz.func59 #[.pointer (some ⟨g, 0, none⟩)] ?_; (with_reducible refine (spec_l1Cur_score.calls k g s0_0 s0_1 s0_2 t315 t318 t319 w0 _ ?side1 ?side2 A2.out).mono ?_); (case side1 => exact iU_ HI0); (case side2 => exact bU_ HB); rintro e w50 ⟨v316, rfl, ho0, hi, hb, hk⟩; refine ⟨_, rfl, ?_⟩; have HO317 := M_ (Kd.R_lower ho0 (pS_ (w := w) (g := g) HK)); replace HK := M_ (pT_ HK hk); replace HB := M_ (hb); replace HI0 := M_ (hi); clear hb hk hi ho0; obtain ⟨Ao51, co51, eo51⟩ := Kd.R_slice HO317.out; subst eo51) | ((with_reducible refine gc_ 42 ?_); refine gM_ (some 14) Tryz.func42 #[.pointer (some ⟨g, 0, none⟩), .int .i64 (t315.length : Int)] ?_; (with_reducible refine (spec_l1Cur_pick.calls g s0_0 t318 t319 (t315.length : Int) t320 t321 t322 w0 _ ?side1 ?side2 A4.out).mono ?_); (case side1 => exact iU_ HI0); (case side2 => exact bU_ HB); rintro e w52 ⟨rfl, hi, hb, hk⟩; refine ⟨_, rfl, ?_⟩; replace HO317 := M_ (ik_ HI0 HO317 hk); replace HK := M_ (pT_ HK hk); replace HB := M_ (hb); replace HI0 := M_ (hi); clear hb hk hi; have p323 : 0 ≤ (t320 : Int) := dT_; have q323 : t320 < (t315.length : Int) := dT_; obtain ⟨ad323, e323, hx323_0, hx323_1, hx323_2⟩ := at_T31 (Kd.R_reads' HO317.out).2.2 t320 p323 q323; cases e323; replace p323 := eq_true p323; replace q323 := eq_true q323) | ((with_reducible refine gc_ 42 ?_); refine gM_ (some 17) Tryz.func42 #[.pointer (some ⟨g, 0, none⟩), .int .i64 36] ?_; (with_reducible refine (spec_l1Cur_pick.calls g s0_0 t321 t322 36 t324 t325 t326 w0 _ ?side1 ?side2 A7.out).mono ?_); (case side1 => exact iU_ HI0); (case side2 => exact bU_ HB); rintro e w53 ⟨rfl, hi, hb, hk⟩; refine ⟨_, rfl, ?_⟩; replace HO317 := M_ (ik_ HI0 HO317 hk); replace HK := M_ (pT_ HK hk); replace HB := M_ (hb); replace HI0 := M_ (hi); clear hb hk hi; have p348 : 0 ≤ (0 : Int) := (by omega); have q348 : 0 < (t315.length : Int) := dT_; obtain ⟨ad348, e348, hx348_0, hx348_1, hx348_2⟩ := at_T31 (Kd.R_reads' HO317.out).2.2 0 p348 q348; obtain rfl : ad323 = ad348 := (by injection e348); have qi348 : (0 < t315.length) = True := eq_true (by omega); (try rw [show ((0 : Int)).toNat = 0 from rfl] at hx348_0); (try rw [show 0 * 3 = 0 from rfl] at hx348_0); (try rw [Addr.add_zero'] at hx348_0); (try rw [show ((0 : Int)).toNat = 0 from rfl] at hx348_1); (try rw [show 0 * 3 = 0 from rfl] at hx348_1); (try rw [Addr.add_zero'] at hx348_1); (try rw [show ((0 : Int)).toNat = 0 from rfl] at hx348_2); (try rw [show 0 * 3 = 0 from rfl] at hx348_2); (try rw [Addr.add_zero'] at hx348_2); replace p348 := eq_true p348; replace q348 := eq_true q348) | ((with_reducible refine gate_builtin (b := .append) (xs := #[.tmp 44, .tmp 48]) rfl ?_); at_builtin; refine Kd.R_append k31 w.heap.size rfl (.tmp 44) (.tmp 48) 24 31 (.agg #[(.int .i64 0), (.int .i64 0), (.int .i64 0)]) 24 rfl Tryz.underlying24 info31 rfl (by decide) (by omega) (.slice (some ad323) t315.length co51) t315 (⟨(rd_T31 t315 0).f0, (rd_T31 t315 0).f1, (rd_T31 t315 0).f2⟩ : S31) [.int .i64 ((rd_T31 t315 0).f0), .int .i64 ((rd_T31 t315 0).f1), .int .i64 ((rd_T31 t315 0).f2)] (fun _ => True) (fun _ => False) rfl rfl ?aP (fun _ hk => hk.elim) ?aF ?aO (Below.refl _ _) ?aS ?aL ?_; (case aP => exact k31_mkM _ _ _ (⟨(rd_T31 t315 0).f0, (rd_T31 t315 0).f1, (rd_T31 t315 0).f2⟩ : S31)); (case aF => exact (fun _ _ => trivial)); (case aO => exact (rU_ HO317.out)); (case aS => exact (pS_ (w := w) (g := g) HK)); (case aL => have := LMc49.out; omega); intro v350 w54 ho hb hg hat; rw [← Ny349.out] at ho; replace HI0 := M_ (IsS58.grown (iU_ HI0) hg (IsS58.own_ne HI0.out HO317.out (by decide))); replace HB := M_ (below_weaken (bU_ HB) HL.out hb); replace HK := M_ (KeepBut.trans (pU_ HK) (KeepBut.of_grown hg g) (Kd.R_base2 HO317.out)); have HO351 := M_ (ho); clear HO317; clear ho hb hg hat))
          go_ret
          exact ⟨_, eR_, rU_ HO351.out, by (try simp only [show IntKind.u64.wrap 0 = 0 from rfl, Int.add_zero]); exact iU_ HI0, bU_ HB, pU_ HK⟩
         ·rw [if_neg c49] at H
          exact absurd H (by simp)
        ·rw [if_neg c48] at H
         exact absurd H (by simp)
       ·rw [if_neg c47] at H
        have c47b0 : (t324 == 3) = false := beq_eq_false_iff_ne.mpr c47
        have c47b1 : (t324 != 3) = true := bne_iff_ne.mpr c47
        by_cases c55 : t324 = 4
        focus
         rw [if_pos c55] at H
         have c55b0 : (t324 == 4) = true := beq_iff_eq.mpr c55
         have c55b1 : (t324 != 4) = false := bne_eq_false_iff_eq.mpr c55
         clear c55
         have H' := M_ H
         clear H
        rotate_left
        focus
         rw [if_neg c55] at H
         have c55b0 : (t324 == 4) = false := beq_eq_false_iff_ne.mpr c55
         have c55b1 : (t324 != 4) = true := bne_iff_ne.mpr c55
         simp only [Option.some.injEq, Prod.mk.injEq] at H;obtain ⟨rfl, rfl, rfl⟩ := H
        rotate_left
        all_goals
         go_enter Tryz.func41, Tryz.ntmps41
         go_wp2_with (first | ((with_reducible refine gc_ 59 ?_); refine gM_ (some 6) Tryz.func59 #[.pointer (some ⟨g, 0, none⟩)] ?_; (with_reducible refine (spec_l1Cur_score.calls k g s0_0 s0_1 s0_2 t315 t318 t319 w0 _ ?side1 ?side2 A2.out).mono ?_); (case side1 => exact iU_ HI0); (case side2 => exact bU_ HB); rintro e w56 ⟨v316, rfl, ho0, hi, hb, hk⟩; refine ⟨_, rfl, ?_⟩; have HO317 := M_ (Kd.R_lower ho0 (pS_ (w := w) (g := g) HK)); replace HK := M_ (pT_ HK hk); replace HB := M_ (hb); replace HI0 := M_ (hi); clear hb hk hi ho0; obtain ⟨Ao57, co57, eo57⟩ := Kd.R_slice HO317.out; subst eo57) | ((with_reducible refine gc_ 42 ?_); refine gM_ (some 14) Tryz.func42 #[.pointer (some ⟨g, 0, none⟩), .int .i64 (t315.length : Int)] ?_; (with_reducible refine (spec_l1Cur_pick.calls g s0_0 t318 t319 (t315.length : Int) t320 t321 t322 w0 _ ?side1 ?side2 A4.out).mono ?_); (case side1 => exact iU_ HI0); (case side2 => exact bU_ HB); rintro e w58 ⟨rfl, hi, hb, hk⟩; refine ⟨_, rfl, ?_⟩; replace HO317 := M_ (ik_ HI0 HO317 hk); replace HK := M_ (pT_ HK hk); replace HB := M_ (hb); replace HI0 := M_ (hi); clear hb hk hi; have p323 : 0 ≤ (t320 : Int) := dT_; have q323 : t320 < (t315.length : Int) := dT_; obtain ⟨ad323, e323, hx323_0, hx323_1, hx323_2⟩ := at_T31 (Kd.R_reads' HO317.out).2.2 t320 p323 q323; cases e323; replace p323 := eq_true p323; replace q323 := eq_true q323) | ((with_reducible refine gc_ 42 ?_); refine gM_ (some 17) Tryz.func42 #[.pointer (some ⟨g, 0, none⟩), .int .i64 36] ?_; (with_reducible refine (spec_l1Cur_pick.calls g s0_0 t321 t322 36 t324 t325 t326 w0 _ ?side1 ?side2 A7.out).mono ?_); (case side1 => exact iU_ HI0); (case side2 => exact bU_ HB); rintro e w59 ⟨rfl, hi, hb, hk⟩; refine ⟨_, rfl, ?_⟩; replace HO317 := M_ (ik_ HI0 HO317 hk); replace HK := M_ (pT_ HK hk); replace HB := M_ (hb); replace HI0 := M_ (hi); clear hb hk hi))
        ·go_loopg [3] k (fun kq v3 w' => ∃ (x3_1 : List (S31)), Aside0 (spec_l1Cur_anyScore.l0 kq x3_1 s0_0 t325 t326 = some (r1, r2, r3)) ∧ Aside0 (kq ≤ k) ∧ Aside0 (Kd.R k31 31 w' w.heap.size (fun _ => True) v3 x3_1) ∧ Aside0 (IsS58 w0 w' g s0_0 t325 t326) ∧ Aside0 (KeepBut w w' g none) ∧ Aside0 (Below w0.heap.size w0 w'))
         case atStart => exact ⟨(([] : List (S31))), H', ⟨Nat.le_refl _⟩, ⟨by first | exact Kd.R_nil _ _ _ _ _ | exact Kd.N_nil _ _ _ _ _ | exact Kd.V_nil _ _ _ _ _ | exact Kd.Q_nil _ _ _ _ _ | exact Kd.S_nil _ _ _ _ _⟩, ⟨iU_ HI0⟩, ⟨pU_ HK⟩, ⟨bU_ HB⟩⟩
         case round =>
          clear H';(try clear qi3);(try clear qi34);obtain ⟨x3_1, HA, HK1, HO_3, HI0, HK, HB⟩ := hrel
          cases gk with
          | zero => exact absurd HA.out (by simp [spec_l1Cur_anyScore.l0])
          | succ k1 =>
           have H := HA.out;clear HA;simp only [spec_l1Cur_anyScore.l0] at H
           by_cases c60 : (x3_1.length : Int) < 31
           ·rw [if_pos c60] at H
            have c60b0 : decide ((x3_1.length : Int) < 31) = true := decide_eq_true c60
            have c60b1 : decide (x3_1.length < 31) = true := decide_eq_true (by omega)
            clear c60
            by_cases c61 : x3_1.length < 5864062014805
            ·rw [if_pos c61] at H
             have LMc61 := M_ c61;clear c61;obtain ⟨y352, hy352⟩ : ∃ y_ : List (S31), y_ = (x3_1 ++ [(⟨60, wrap64 (2 * (x3_1.length : Int)), 1⟩ : S31)]) := ⟨_, rfl⟩
             replace H : (spec_l1Cur_anyScore.l0 k1 y352 s0_0 t325 t326) = some (r1, r2, r3) := by first | (rw [hy352]; with_reducible exact H) | (have H2_ := (Option.bind_some _ _).symm.trans H; rw [hy352]; with_reducible exact H2_) | (have H2_ := (Option.bind_some _ _).symm.trans H; with_reducible exact H2_) | with_reducible exact H | (rw [hy352]; exact H) | exact H
             have Ny352 := M_ hy352;clear hy352
             have H' := M_ H
             clear H;obtain ⟨Ao62, co62, eo62⟩ := Kd.R_slice HO_3.out;subst eo62
             go_wp2_with (first | ((with_reducible refine gate_builtin (b := .append) (xs := #[.tmp 55, .tmp 60]) rfl ?_); at_builtin; refine Kd.R_append k31 w.heap.size rfl (.tmp 55) (.tmp 60) 24 31 (.agg #[(.int .i64 0), (.int .i64 0), (.int .i64 0)]) 24 rfl Tryz.underlying24 info31 rfl (by decide) (by omega) (.slice Ao62 x3_1.length co62) x3_1 (⟨60, wrap64 (2 * (x3_1.length : Int)), 1⟩ : S31) [.int .i64 60, .int .i64 (wrap64 (2 * (x3_1.length : Int))), .int .i64 1] (fun _ => True) (fun _ => False) rfl rfl ?aP (fun _ hk => hk.elim) ?aF ?aO (Below.refl _ _) ?aS ?aL ?_; (case aP => exact k31_mkM _ _ _ (⟨60, wrap64 (2 * (x3_1.length : Int)), 1⟩ : S31)); (case aF => exact (fun _ _ => trivial)); (case aO => exact (rU_ HO_3.out)); (case aS => exact (pS_ (w := w) (g := g) HK)); (case aL => have := LMc61.out; omega); intro v353 w63 ho hb hg hat; rw [← Ny352.out] at ho; replace HI0 := M_ (IsS58.grown (iU_ HI0) hg (IsS58.own_ne HI0.out HO_3.out (by decide))); replace HB := M_ (below_weaken (bU_ HB) HL.out hb); replace HK := M_ (KeepBut.trans (pU_ HK) (KeepBut.of_grown hg g) (Kd.R_base2 HO_3.out)); have HO354 := M_ (ho); clear HO_3; clear ho hb hg hat))
             go_roundg k1
             case measure => have := HK1.out; omega
             case rel => exact ⟨(y352), H', ⟨by have := HK1.out; omega⟩, ⟨rU_ HO354.out⟩, ⟨iU_ HI0⟩, ⟨pU_ HK⟩, ⟨bU_ HB⟩⟩
            ·rw [if_neg c61] at H
             exact absurd H (by simp)
           ·rw [if_neg c60] at H
            have c60b0 : decide ((x3_1.length : Int) < 31) = false := decide_eq_false c60
            have c60b1 : decide (x3_1.length < 31) = false := decide_eq_false (by omega)
            clear c60;simp only [Option.some.injEq, Prod.mk.injEq] at H;obtain ⟨rfl, rfl, rfl⟩ := H;obtain ⟨Ao64, co64, eo64⟩ := Kd.R_slice HO_3.out;subst eo64
            go_wp2
            go_ret
            exact ⟨_, eR_, rU_ HO_3.out, by (try simp only [show IntKind.u64.wrap 0 = 0 from rfl, Int.add_zero]); exact iU_ HI0, bU_ HB, pU_ HK⟩
        ·go_ret
         exact ⟨_, eR_, rU_ HO317.out, by (try simp only [show IntKind.u64.wrap 0 = 0 from rfl, Int.add_zero]); exact iU_ HI0, bU_ HB, pU_ HK⟩
   ·rw [if_neg c6] at H
    exact absurd H (by simp)
  ·rw [if_neg c5] at H
   exact absurd H (by simp)
 ·rw [if_neg c3] at H
  have c3b0 : decide (0 < (t315.length : Int)) = false := decide_eq_false c3
  have c3b1 : decide (0 < t315.length) = false := decide_eq_false (by omega)
  clear c3;simp only [Option.some.injEq, Prod.mk.injEq] at H;obtain ⟨rfl, rfl, rfl⟩ := H
  go_enter Tryz.func41, Tryz.ntmps41
  go_wp2_with (first | ((with_reducible refine gc_ 59 ?_); refine gM_ (some 6) Tryz.func59 #[.pointer (some ⟨g, 0, none⟩)] ?_; (with_reducible refine (spec_l1Cur_score.calls k g s0_0 s0_1 s0_2 t315 t318 t319 w0 _ ?side1 ?side2 A2.out).mono ?_); (case side1 => exact iU_ HI0); (case side2 => exact bU_ HB); rintro e w69 ⟨v316, rfl, ho0, hi, hb, hk⟩; refine ⟨_, rfl, ?_⟩; have HO317 := M_ (Kd.R_lower ho0 (pS_ (w := w) (g := g) HK)); replace HK := M_ (pT_ HK hk); replace HB := M_ (hb); replace HI0 := M_ (hi); clear hb hk hi ho0; obtain ⟨Ao70, co70, eo70⟩ := Kd.R_slice HO317.out; subst eo70))
  go_ret
  exact ⟨_, eR_, rU_ HO317.out, by (try simp only [show IntKind.u64.wrap 0 = 0 from rfl, Int.add_zero]); exact iU_ HI0, bU_ HB, pU_ HK⟩
def spec_DrawIsScore.f (k : Nat) (l0 : List Int) : Option ((List (S31))) := (newCur.f l0).bind fun bt355 => ((spec_l1Cur_anyScore.f k bt355.1 bt355.2.1 bt355.2.2).bind fun bt359 => (some bt359.1))
theorem spec_DrawIsScore.mono : ∀ a0 k, LeO (spec_DrawIsScore.f k a0) (spec_DrawIsScore.f (k + 1) a0) := by
 intro a0 k
 unfold spec_DrawIsScore.f
 have m0_ := @spec_l1Cur_anyScore.mono;exact mo_
set_option maxHeartbeats 8000000 in
set_option maxRecDepth 100000 in
theorem spec_DrawIsScore.calls (k : Nat) (A0 : Option Addr) (c0 : Nat) (l0 : List Int) (r : List (S31)) (w : World) (hr0 : Kd.C (Kd.int .u8) w A0 l0.length l0) (hc0 : l0.length ≤ c0) (h : spec_DrawIsScore.f k l0 = some r) :
  Calls Tryz.prog 69 #[.slice A0 l0.length c0] w fun e w' => ∃ v0_ : Value, e = .returned (v0_) ∧ Kd.R k31 31 w' w.heap.size (fun _ => True) v0_ r ∧ Below w.heap.size w w' := by
 have HR0 := M_ hr0;have HC0 := M_ hc0;clear hr0 hc0;have HB := M_ (Below.refl w.heap.size w)
 have H : ((newCur.f l0).bind fun bt355 => ((spec_l1Cur_anyScore.f k bt355.1 bt355.2.1 bt355.2.2).bind fun bt359 => (some bt359.1))) = some r := h
 clear h;replace H := Option.bind_eq_some_iff.mp H;obtain ⟨⟨t355, t356, t357⟩, A20, H⟩ := H;(try dsimp only at H);have A2 := M_ A20;clear A20;replace H := Option.bind_eq_some_iff.mp H;obtain ⟨⟨t359, t362, t363⟩, A30, H⟩ := H;replace H : (some t359) = some r := H;have A3 := M_ A30;clear A30;obtain rfl := Option.some.inj H
 go_enter Tryz.func69, Tryz.ntmps69
 go_wp2_with (first | ((with_reducible refine gate_dst (N := 6) rfl ?_); refine bx_ (N := 6) (cs := #[.slice A0 l0.length c0, .int .i64 0, .int .u64 0]) (t := 58) ?_; intro g358 hg w4 hbox hb2; have hb := bS_ HB hb2; have hi := newCur_is A2.out (by exact HR0.out) hbox (by rw [hg]; exact (bZ_ HB)); clear hg hbox; replace HB := M_ (hb); have HI358 := M_ (hi); clear hb) | ((with_reducible refine gc_ 41 ?_); refine gM_ (some 8) Tryz.func41 #[.pointer (some ⟨g358, 0, none⟩)] ?_; (with_reducible refine (spec_l1Cur_anyScore.calls k g358 t355 t356 t357 t359 t362 t363 w _ ?side1 ?side2 A3.out).mono ?_); (case side1 => exact iU_ HI358); (case side2 => exact bU_ HB); rintro e w5 ⟨v360, rfl, ho0, hi, hb, hk⟩; refine ⟨_, rfl, ?_⟩; have HO361 := M_ (Kd.R_lower ho0 (bZ_ HB)); replace HB := M_ (hb); replace HI358 := M_ (hi); clear hb hk hi ho0))
 go_ret
 exact ⟨_, eR_, rU_ HO361.out, bU_ HB⟩
def spec_DrawScoreText.f (k : Nat) (l0 : List Int) : Option ((List (S31))) := (spec_DrawIsScore.f k l0).bind fun t364 => (some t364)
theorem spec_DrawScoreText.mono : ∀ a0 k, LeO (spec_DrawScoreText.f k a0) (spec_DrawScoreText.f (k + 1) a0) := by
 intro a0 k
 unfold spec_DrawScoreText.f
 have m0_ := @spec_DrawIsScore.mono;exact mo_
set_option maxHeartbeats 8000000 in
set_option maxRecDepth 100000 in
theorem spec_DrawScoreText.calls (k : Nat) (A0 : Option Addr) (c0 : Nat) (l0 : List Int) (r : List (S31)) (w : World) (hr0 : Kd.C (Kd.int .u8) w A0 l0.length l0) (hc0 : l0.length ≤ c0) (h : spec_DrawScoreText.f k l0 = some r) :
  Calls Tryz.prog 27 #[.slice A0 l0.length c0] w fun e w' => ∃ v0_ : Value, e = .returned (v0_) ∧ Kd.R k31 31 w' w.heap.size (fun _ => True) v0_ r ∧ Below w.heap.size w w' := by
 have HR0 := M_ hr0;have HC0 := M_ hc0;clear hr0 hc0;have HB := M_ (Below.refl w.heap.size w)
 have H : ((spec_DrawIsScore.f k l0).bind fun t364 => (some t364)) = some r := h
 clear h;replace H := Option.bind_eq_some_iff.mp H;obtain ⟨t364, A20, H⟩ := H;replace H : (some t364) = some r := H;have A2 := M_ A20;clear A20;obtain rfl := Option.some.inj H
 go_enter Tryz.func27, Tryz.ntmps27
 go_wp2_with (first | ((with_reducible refine gc_ 69 ?_); refine gM_ (some 4) Tryz.func69 #[.slice A0 l0.length c0] ?_; (with_reducible refine (spec_DrawIsScore.calls k _ _ l0 t364 _ ?side1 ?side2 A2.out).mono ?_); (case side1 => exact cU_ HR0.out); (case side2 => exact HC0.out); rintro e w3 ⟨v365, rfl, ho0, hb⟩; refine ⟨_, rfl, ?_⟩; have HO366 := M_ (Kd.R_lower ho0 (bZ_ HB)); replace HB := M_ (bS_ HB hb); clear hb ho0))
 go_ret
 exact ⟨_, eR_, rU_ HO366.out, bU_ HB⟩
-- NOT PRINTED: function 107 (abi_NoEscape)

-- NOT PRINTED: function 95 (strings_Builder_copyCheck)

-- NOT PRINTED: function 70 (strings_Builder_WriteString)

-- NOT PRINTED: function 72 (strings_Builder_String)

-- NOT PRINTED: function 156 (bytealg_MakeNoZero)

-- NOT PRINTED: function 139 (strings_Builder_grow)

-- NOT PRINTED: function 108 (strings_Builder_Grow)

-- XNAME strings_Join join
-- XSHELF
def join.f (l0 : List ByteArray) (a1 : ByteArray) : Option (ByteArray × List ByteArray) := if l0.length ≤ 140737488355328 then (if (Lib.join (l0.map (·.data.toList)) a1.data.toList).length ≤ 140737488355328 then some ((⟨(Lib.join (l0.map (·.data.toList)) a1.data.toList).toArray⟩ : ByteArray), l0) else none) else none
set_option maxHeartbeats 8000000 in
theorem join.calls (P0_ : Nat → Prop) (u9000_ : Value) (l0 : List ByteArray) (a1 : ByteArray) (r1 : ByteArray) (r2 : List ByteArray) (w0 w : World) (hB : Below w0.heap.size w0 w) (ho0 : Kd.R Kd.string 9 w w0.heap.size P0_ u9000_ l0) (h : join.f l0 a1 = some (r1, r2)) :
  Calls Tryz.prog 96 #[u9000_, .string a1] w fun e w' => e = .returned (.string r1) ∧ Kd.R Kd.string 9 w' w0.heap.size (fun k_ => (P0_ k_ ∨ w.heap.size ≤ k_)) u9000_ r2 ∧ Below w0.heap.size w0 w' ∧ Kept w w' (fun k_ => P0_ k_) := by
 unfold join.f at h
 by_cases hl : l0.length ≤ 140737488355328
 case neg => rw [if_neg hl] at h; cases h
 by_cases hj : (Lib.join (l0.map (·.data.toList)) a1.data.toList).length ≤ 140737488355328
 case neg => rw [if_pos hl, if_neg hj] at h; cases h
 rw [if_pos hl, if_pos hj] at h
 have h2 := Option.some.inj h;simp only [Prod.mk.injEq] at h2;obtain ⟨rfl, rfl⟩ := h2;clear h
 have hR' : ∀ w', Below w.heap.size w w' → Kd.R Kd.string 9 w' w0.heap.size (fun k_ => (P0_ k_ ∨ w.heap.size ≤ k_)) u9000_ l0 := fun w' hb => rm_ (rb_ ho0 hb) (fun _ hk => .inl hk)
 have hBB : ∀ w', Below w.heap.size w w' → Below w0.heap.size w0 w' := fun w' hb => below_step hB hb
 rcases Nat.eq_zero_or_pos l0.length with hz | hp
 ·obtain rfl : l0 = [] := List.eq_nil_of_length_eq_zero hz
  obtain ⟨Av, cv, ev⟩ := Kd.R_slice ho0;subst ev;refine (Tryz.strings_Join_none Av cv a1 w).mono ?_;rintro e w' ⟨rfl, rfl⟩;exact ⟨rfl, hR' _ (Below.refl _ _), hB, Kept.refl _ _⟩
 ·obtain ⟨g, c, rfl, hg, hlt, _⟩ := Kd.R_form ho0 hp
  have hrd := Kd.R_reads' ho0
  have hcells : ∀ (j : Nat) x, l0[j]? = some x → w.cell? ⟨g, 0 + j, none⟩ = some (.string x) := by
   intro j x hx
   have hjl : j < l0.length := (List.getElem?_eq_some_iff.1 hx).1
   obtain ⟨ad, e, hc⟩ := Kd.at_string hrd.2.2 (j : Int) (by omega) (by omega)
   injection e with e
   subst e
   rw [Int.toNat_natCast, add_plain] at hc
   rw [Nat.zero_add, hc]
   congr 2
   unfold rdOf
   rw [Int.toNat_natCast, List.getD_eq_getElem?_getD, hx]
   rfl
  refine (Tryz.strings_Join g 0 c l0 a1 w hcells hlt hl hrd.2.1 hj).mono ?_;rintro e w' ⟨rfl, hb⟩;exact ⟨rfl, hR' _ hb, hBB _ hb, Kept.of_below hb _⟩
theorem tab_below_ {w w' : World} {z : List Int} {nm : String} {kk : IntKind} (h : Lib.TabIs Tryz.prog w nm kk z) (hb : Below w.heap.size w w') : Lib.TabIs Tryz.prog w' nm kk z := (Lib.tabBelow_of_tabIs h) w' hb
def itoal.f (a0 : Int) : Option (ByteArray) := if 0 ≤ a0 then (if a0 < 1000000 then some (⟨(Lib.decDigits a0.toNat).toArray⟩ : ByteArray) else none) else none
theorem itoal.calls (a0 : Int) (r : ByteArray) (w : World) (hT : Lib.TabIs Tryz.prog w "internal/strconv.uint64pow10" .u64 Lib.pow10Tab) (h : itoal.f a0 = some r) :
  Calls Tryz.prog 84 #[.int .i64 a0] w fun e w' => e = .returned (.string r) ∧ Below w.heap.size w w' := by
 unfold itoal.f at h
 by_cases h0 : 0 ≤ a0
 case neg => rw [if_neg h0] at h; cases h
 by_cases h1 : a0 < 1000000
 case neg => rw [if_pos h0, if_neg h1] at h; cases h
 rw [if_pos h0, if_pos h1] at h
 obtain rfl := Option.some.inj h;clear h;refine (Tryz.strconv_Itoa a0 (by omega) (by omega) w hT).mono ?_;rintro e w' ⟨rfl, k, os, rfl⟩;refine ⟨?_, ?_⟩
 ·have : Lib.itoa a0 = Lib.decDigits a0.toNat := by
   obtain ⟨i, rfl⟩ := Int.eq_ofNat_of_zero_le h0;rfl
  rw [this]
 ·exact ⟨rfl, rfl, rfl, by show w.heap.size ≤ (w.heap ++ os).size; simp, fun i hi => by
   show ((w.drewN k).heap ++ os)[i]? = _
   rw [Array.getElem?_append_left (by show i < w.heap.size; omega)]
   rfl⟩
def impl_words.l0 : Nat → List ByteArray → List Int → Int → Int → Option (ByteArray)
 | 0, _, _, _, _ => none
 | k + 1, x3, x7, x8, x9 => if x9 < x8 then (if 0 ≤ x9 then (if x9 < (x7.length : Int) then ((itoal.f (rd x7 x9)).bind fun t371 => (if x3.length < 8796093022208 then (impl_words.l0 k (x3 ++ [t371]) x7 x8 (wrap64 (x9 + 1))) else (none))) else (none)) else (none)) else ((join.f x3 (⟨#[32]⟩ : ByteArray)).bind fun bt375 => (some bt375.1))
def impl_words.f (k : Nat) (l0 : List Int) : Option (ByteArray) := impl_words.l0 k (([] : List ByteArray)) l0 (l0.length : Int) 0
theorem impl_words.mono_l : ∀ k, (∀ y0 y1 y2 y3, LeO (impl_words.l0 k y0 y1 y2 y3) (impl_words.l0 (k + 1) y0 y1 y2 y3))
 | 0 => fun _ _ _ _ r h => by simp [impl_words.l0] at h
 | k + 1 => by
  have ih0 := impl_words.mono_l k
  ·intro y0 y1 y2 y3
   unfold impl_words.l0
   exact mo_
theorem impl_words.mono : ∀ a0 k, LeO (impl_words.f k a0) (impl_words.f (k + 1) a0) := by
 intro a0 k;have ih0 := impl_words.mono_l k
 unfold impl_words.f
 exact mo_
set_option maxHeartbeats 8000000 in
set_option maxRecDepth 100000 in
theorem impl_words.calls (k : Nat) (A0 : Option Addr) (c0 : Nat) (l0 : List Int) (r : ByteArray) (w : World) (hr0 : Kd.C (Kd.int .i64) w A0 l0.length l0) (hc0 : l0.length ≤ c0) (hT : Lib.TabIs Tryz.prog w "internal/strconv.uint64pow10" .u64 Lib.pow10Tab) (h : impl_words.f k l0 = some r) :
  Calls Tryz.prog 71 #[.slice A0 l0.length c0] w fun e w' => e = .returned (.string r) ∧ Below w.heap.size w w' := by
 have HR0 := M_ hr0;have HC0 := M_ hc0;clear hr0 hc0;have HT := M_ hT;clear hT;have HB := M_ (Below.refl w.heap.size w)
 have H : (impl_words.l0 k (([] : List ByteArray)) l0 (l0.length : Int) 0) = some r := h
 clear h;obtain ⟨y367, hy367⟩ : ∃ y_ : List ByteArray, y_ = (([] : List ByteArray)) := ⟨_, rfl⟩
 replace H : (impl_words.l0 k y367 l0 (l0.length : Int) 0) = some r := by first | (rw [hy367]; with_reducible exact H) | (have H2_ := (Option.bind_some _ _).symm.trans H; rw [hy367]; with_reducible exact H2_) | (have H2_ := (Option.bind_some _ _).symm.trans H; with_reducible exact H2_) | with_reducible exact H | (rw [hy367]; exact H) | exact H
 have Ny367 := M_ hy367;clear hy367
 have H' := M_ H
 clear H
 go_enter Tryz.func71, Tryz.ntmps71
 go_wp2_with (first | ((with_reducible refine gate_dst (N := 6) rfl ?_); refine Kd.R_lit Kd.string _ 9 ?hg (N := 6) ?hd (xs := ([] : List ByteArray)) (inner := []) (ok := fun _ => True) (okp := fun _ => True) ?hr ?hp (fun _ hk => hk) trivial (Below.refl _ _) (Nat.le_refl _) (by simp) ?_; (case hd => rfl); (case hg => rfl); (case hr => first | (go_simp; done) | (go_simp; rfl)); (case hp => exact (Reps.none _ _)); intro v368 w2 ho3 hb hg_ hnew_; clear hg_ hnew_; (first | rw [← Ny367.out] at ho3 | (simp only [Int.reduceToNat] at ho3; rw [← Ny367.out] at ho3)); have HO369 := M_ (Kd.R_lower ho3 (bZ_ HB)); replace HB := M_ (bS_ HB hb); clear hb ho3))
 go_loopg [3, 9] k (fun kq v3 v9 w' => ∃ (x3_1 : List ByteArray) (x9_1 : Int), v9 = .int .i64 x9_1 ∧ Aside0 (impl_words.l0 kq x3_1 l0 (l0.length : Int) x9_1 = some r) ∧ Aside0 (kq ≤ k) ∧ Aside0 (Kd.R Kd.string 9 w' w.heap.size (fun _ => True) v3 x3_1) ∧ Aside0 (Below w.heap.size w w'))
 case atStart => exact ⟨(y367), (0), eD_, H', ⟨Nat.le_refl _⟩, ⟨rU_ HO369.out⟩, ⟨bU_ HB⟩⟩
 case round =>
  clear H';obtain ⟨x3_1, x9_1, rfl, HA, HK1, HO_3, HB⟩ := hrel
  cases gk with
  | zero => exact absurd HA.out (by simp [impl_words.l0])
  | succ k1 =>
   have H := HA.out;clear HA;simp only [impl_words.l0] at H
   by_cases c4 : x9_1 < (l0.length : Int)
   ·rw [if_pos c4] at H
    have c4b0 : decide (x9_1 < (l0.length : Int)) = true := decide_eq_true c4
    clear c4
    by_cases c5 : 0 ≤ x9_1
    ·rw [if_pos c5] at H
     have c5b0 : decide (0 ≤ x9_1) = true := decide_eq_true c5
     clear c5
     by_cases c6 : x9_1 < (l0.length : Int)
     ·rw [if_pos c6] at H
      have c6b0 : decide (x9_1 < (l0.length : Int)) = true := decide_eq_true c6
      clear c6;replace H := Option.bind_eq_some_iff.mp H;obtain ⟨t371, A70, H⟩ := H;(try dsimp only at H);have A7 := M_ A70;clear A70
      by_cases c8 : x3_1.length < 8796093022208
      ·rw [if_pos c8] at H
       have LMc8 := M_ c8;clear c8;obtain ⟨y372, hy372⟩ : ∃ y_ : List ByteArray, y_ = (x3_1 ++ [t371]) := ⟨_, rfl⟩
       replace H : (impl_words.l0 k1 y372 l0 (l0.length : Int) (wrap64 (x9_1 + 1))) = some r := by first | (rw [hy372]; with_reducible exact H) | (have H2_ := (Option.bind_some _ _).symm.trans H; rw [hy372]; with_reducible exact H2_) | (have H2_ := (Option.bind_some _ _).symm.trans H; with_reducible exact H2_) | with_reducible exact H | (rw [hy372]; exact H) | exact H
       have Ny372 := M_ hy372;clear hy372
       have H' := M_ H
       clear H
       have p370 : 0 ≤ (x9_1 : Int) := dT_
       have q370 : x9_1 < (l0.length : Int) := dT_
       obtain ⟨ad370, e370, hx370_0⟩ := Kd.at_int HR0.out x9_1 p370 q370;cases e370;replace hx370_0 := (HB.out.cell (World.block_lt_of_cell? w _ hx370_0)).trans hx370_0;replace p370 := eq_true p370;replace q370 := eq_true q370
       go_wp2_with (first | ((with_reducible refine gc_ 84 ?_); refine gM_ (some 15) Tryz.func84 #[.int .i64 (rd l0 x9_1)] ?_; (with_reducible refine (itoal.calls (rd l0 x9_1) t371 _ (tab_below_ HT.out (bU_ HB)) A7.out).mono ?_); rintro e w7 ⟨rfl, hb⟩; refine ⟨_, rfl, ?_⟩; replace HO_3 := M_ (rB_ HO_3 hb); replace HB := M_ (bS_ HB hb)) | ((with_reducible refine gate_builtin (b := .append) (xs := #[.tmp 13, .tmp 16]) rfl ?_); at_builtin; refine Kd.R_append Kd.string (w0 := w) w.heap.size rfl (.tmp 13) (.tmp 16) 72 9 (.string ⟨#[]⟩) 16 rfl Tryz.underlying72 info9 rfl (by decide) (by omega) u3 x3_1 t371 [.string t371] (fun _ => True) (fun _ => False) rfl rfl ?aP (fun _ hk => hk.elim) ?aF ?aO ?aB ?aS ?aL ?_; (case aP => exact rfl); (case aB => exact (bU_ HB)); (case aF => exact (fun _ _ => trivial)); (case aO => exact (rU_ HO_3.out)); (case aS => exact (bZ_ HB)); (case aL => have := LMc8.out; omega); intro v373 w9 ho hb hg hat; rw [← Ny372.out] at ho; replace HB := M_ (hb); have HO374 := M_ (ho); clear HO_3; clear ho hb hg hat))
       go_roundg k1
       case measure => have := HK1.out; omega
       case rel => exact ⟨(y372), (wrap64 (x9_1 + 1)), eD_, H', ⟨by have := HK1.out; omega⟩, ⟨rU_ HO374.out⟩, ⟨bU_ HB⟩⟩
      ·rw [if_neg c8] at H
       exact absurd H (by simp)
     ·rw [if_neg c6] at H
      exact absurd H (by simp)
    ·rw [if_neg c5] at H
     exact absurd H (by simp)
   ·rw [if_neg c4] at H
    have c4b0 : decide (x9_1 < (l0.length : Int)) = false := decide_eq_false c4
    clear c4;replace H := Option.bind_eq_some_iff.mp H;obtain ⟨⟨t375, t376⟩, A100, H⟩ := H;replace H : (some t375) = some r := H;have A10 := M_ A100;clear A100;obtain rfl := Option.some.inj H;obtain ⟨Ao11, co11, eo11⟩ := Kd.R_slice HO_3.out;subst eo11
    go_wp2_with (first | ((with_reducible refine gc_ 96 ?_); refine gM_ (some 20) Tryz.func96 #[.slice Ao11 x3_1.length co11, .string (⟨#[32]⟩ : ByteArray)] ?_; (with_reducible refine (join.calls (fun k_ => some k_ = (.slice Ao11 x3_1.length co11 : Value).ownBlock) (.slice Ao11 x3_1.length co11) x3_1 (⟨#[32]⟩ : ByteArray) t375 t376 w _ ?side1 ?side2 A10.out).mono ?_); (case side1 => exact bU_ HB); (case side2 => exact Kd.R_tight rfl HO_3.out); rintro e w12 ⟨rfl, hy0, hb, hkp⟩; refine ⟨_, rfl, ?_⟩; replace HO_3 := M_ (Kd.R_reok rfl hy0 (fun k_ e_ => HO_3.out.1 k_ e_)); replace HB := M_ (hb); (try clear hb); (try clear hkp); (try clear hy0)))
    go_ret
    exact ⟨eR_, bU_ HB⟩
end Go.Proofs.YtfpfjnmjekjnhaaGreatDoor.PFnScores
