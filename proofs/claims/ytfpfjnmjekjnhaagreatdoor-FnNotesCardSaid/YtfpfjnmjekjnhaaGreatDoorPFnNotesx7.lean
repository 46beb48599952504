-- by wip/xprint.py, over the kit's printer
import Derived.Test.YtfpfjnmjekjnhaaGreatDoorPFnNotesx0
import Derived.Test.YtfpfjnmjekjnhaaGreatDoorPFnNotesx2
import Derived.Test.YtfpfjnmjekjnhaaGreatDoorPFnNotesx6
namespace Go.Proofs.YtfpfjnmjekjnhaaGreatDoor.PFnNotes
open Go.RowKit Go.Proofs.YtfpfjnmjekjnhaaGreatDoorW.PrintWords Go.Proofs.YtfpfjnmjekjnhaaGreatDoorW.PrintLast Go.Proofs.YtfpfjnmjekjnhaaGreatDoorW.PrintMore
attribute [local go_sem] max2_int min2_int max_two min_two max_three min_three max_four min_four   -- for this text's walks alone
set_option linter.unusedVariables false
set_option linter.unusedSimpArgs false

def spec_l1Cur_anyScore.l0 : Nat → List (S31) → List Int → Int → Int → Option ((List (S31)) × Int × Int)
 | 0, _, _, _, _ => none
 | k + 1, x3, x1000, x1001, x1002 => if (x3.length : Int) < 31 then (if x3.length < 5864062014805 then (spec_l1Cur_anyScore.l0 k (x3 ++ [(⟨60, wrap64 (2 * (x3.length : Int)), 1⟩ : S31)]) x1000 x1001 x1002) else (none)) else (some (x3, x1001, x1002))
def spec_l1Cur_anyScore.f (k : Nat) (s0_0 : List Int) (s0_1 : Int) (s0_2 : Int) : Option ((List (S31)) × Int × Int) := (spec_l1Cur_score.f k s0_0 s0_1 s0_2).bind fun bt224 => (if (bt224.1.length : Int) > 0 then ((spec_l1Cur_pick.f s0_0 bt224.2.1 bt224.2.2 (bt224.1.length : Int)).bind fun bt229 => (if 0 ≤ bt229.1 then (if bt229.1 < (bt224.1.length : Int) then ((spec_l1Cur_pick.f s0_0 bt229.2.1 bt229.2.2 36).bind fun bt233 => (if bt233.1 = 0 then ((spec_l1Cur_among.f s0_0 bt233.2.1 bt233.2.2 (([23, 24, 96, 97] : List Int))).bind fun bt239 => (some ((bt224.1.set (bt229.1 : Int).toNat (⟨bt239.1, (rd_T31 bt224.1 bt229.1).f1, (rd_T31 bt224.1 bt229.1).f2⟩ : S31)), bt239.2.1, bt239.2.2))) else (if bt233.1 = 1 then ((spec_l1Cur_among.f s0_0 bt233.2.1 bt233.2.2 (([(-1), 0, 999, 1000] : List Int))).bind fun bt246 => (some ((bt224.1.set (bt229.1 : Int).toNat (⟨(rd_T31 bt224.1 bt229.1).f0, bt246.1, (rd_T31 bt224.1 bt229.1).f2⟩ : S31)), bt246.2.1, bt246.2.2))) else (if bt233.1 = 2 then ((spec_l1Cur_among.f s0_0 bt233.2.1 bt233.2.2 (([0, 99, 100] : List Int))).bind fun bt253 => (some ((bt224.1.set (bt229.1 : Int).toNat (⟨(rd_T31 bt224.1 bt229.1).f0, (rd_T31 bt224.1 bt229.1).f1, bt253.1⟩ : S31)), bt253.2.1, bt253.2.2))) else (if bt233.1 = 3 then (if 0 < (bt224.1.length : Int) then (if bt224.1.length < 5864062014805 then (some ((bt224.1 ++ [(⟨(rd_T31 bt224.1 0).f0, (rd_T31 bt224.1 0).f1, (rd_T31 bt224.1 0).f2⟩ : S31)]), bt233.2.1, bt233.2.2)) else (none)) else (none)) else (if bt233.1 = 4 then (spec_l1Cur_anyScore.l0 k ([] : List (S31)) s0_0 bt233.2.1 bt233.2.2) else (some (bt224.1, bt233.2.1, bt233.2.2)))))))) else (none)) else (none))) else (some (bt224.1, bt224.2.1, bt224.2.2)))
theorem spec_l1Cur_anyScore.mono_l : ∀ k, (∀ y0 y1 y2 y3, LeO (spec_l1Cur_anyScore.l0 k y0 y1 y2 y3) (spec_l1Cur_anyScore.l0 (k + 1) y0 y1 y2 y3))
 | 0 => fun _ _ _ _ r h => by simp [spec_l1Cur_anyScore.l0] at h
 | k + 1 => by
  have ih0 := spec_l1Cur_anyScore.mono_l k
  ·intro y0 y1 y2 y3
   unfold spec_l1Cur_anyScore.l0
   have m0_ := @spec_l1Cur_score.mono;exact mo_
theorem spec_l1Cur_anyScore.mono : ∀ a0 a1 a2 k, LeO (spec_l1Cur_anyScore.f k a0 a1 a2) (spec_l1Cur_anyScore.f (k + 1) a0 a1 a2) := by
 intro a0 a1 a2 k;have ih0 := spec_l1Cur_anyScore.mono_l k
 unfold spec_l1Cur_anyScore.f
 have m0_ := @spec_l1Cur_score.mono;exact mo_
set_option maxHeartbeats 8000000 in
set_option maxRecDepth 100000 in
theorem spec_l1Cur_anyScore.calls (k : Nat) (g : Nat) (s0_0 : List Int) (s0_1 : Int) (s0_2 : Int) (r1 : List (S31)) (r2 : Int) (r3 : Int) (w0 w : World) (hI : IsS58 w0 w g s0_0 s0_1 s0_2) (hB : Below w0.heap.size w0 w) (h : spec_l1Cur_anyScore.f k s0_0 s0_1 s0_2 = some (r1, r2, r3)) :
  Calls Tryz.prog 41 #[.pointer (some ⟨g, 0, none⟩)] w fun e w' => ∃ v0_ : Value, e = .returned (v0_) ∧ Kd.R k31 31 w' w.heap.size (fun _ => True) v0_ r1 ∧ IsS58 w0 w' g s0_0 r2 r3 ∧ Below w0.heap.size w0 w' ∧ KeepBut w w' g none := by
 have hu31 := Tryz.underlying31;have HI0 := M_ hI;have GEHI0_ := M_ (IsS58.ge HI0.out);have HK := M_ (KeepBut.refl w g none);have HL := M_ hB.size;clear hI;have HW0 := M_ hB.size;have HB := M_ hB;clear hB
 have H : ((spec_l1Cur_score.f k s0_0 s0_1 s0_2).bind fun bt224 => (if (bt224.1.length : Int) > 0 then ((spec_l1Cur_pick.f s0_0 bt224.2.1 bt224.2.2 (bt224.1.length : Int)).bind fun bt229 => (if 0 ≤ bt229.1 then (if bt229.1 < (bt224.1.length : Int) then ((spec_l1Cur_pick.f s0_0 bt229.2.1 bt229.2.2 36).bind fun bt233 => (if bt233.1 = 0 then ((spec_l1Cur_among.f s0_0 bt233.2.1 bt233.2.2 (([23, 24, 96, 97] : List Int))).bind fun bt239 => (some ((bt224.1.set (bt229.1 : Int).toNat (⟨bt239.1, (rd_T31 bt224.1 bt229.1).f1, (rd_T31 bt224.1 bt229.1).f2⟩ : S31)), bt239.2.1, bt239.2.2))) else (if bt233.1 = 1 then ((spec_l1Cur_among.f s0_0 bt233.2.1 bt233.2.2 (([(-1), 0, 999, 1000] : List Int))).bind fun bt246 => (some ((bt224.1.set (bt229.1 : Int).toNat (⟨(rd_T31 bt224.1 bt229.1).f0, bt246.1, (rd_T31 bt224.1 bt229.1).f2⟩ : S31)), bt246.2.1, bt246.2.2))) else (if bt233.1 = 2 then ((spec_l1Cur_among.f s0_0 bt233.2.1 bt233.2.2 (([0, 99, 100] : List Int))).bind fun bt253 => (some ((bt224.1.set (bt229.1 : Int).toNat (⟨(rd_T31 bt224.1 bt229.1).f0, (rd_T31 bt224.1 bt229.1).f1, bt253.1⟩ : S31)), bt253.2.1, bt253.2.2))) else (if bt233.1 = 3 then (if 0 < (bt224.1.length : Int) then (if bt224.1.length < 5864062014805 then (some ((bt224.1 ++ [(⟨(rd_T31 bt224.1 0).f0, (rd_T31 bt224.1 0).f1, (rd_T31 bt224.1 0).f2⟩ : S31)]), bt233.2.1, bt233.2.2)) else (none)) else (none)) else (if bt233.1 = 4 then (spec_l1Cur_anyScore.l0 k ([] : List (S31)) s0_0 bt233.2.1 bt233.2.2) else (some (bt224.1, bt233.2.1, bt233.2.2)))))))) else (none)) else (none))) else (some (bt224.1, bt224.2.1, bt224.2.2)))) = some (r1, r2, r3) := h
 clear h;replace H := Option.bind_eq_some_iff.mp H;obtain ⟨⟨t224, t227, t228⟩, A20, H⟩ := H;(try dsimp only at H);have A2 := M_ A20;clear A20
 by_cases c3 : (t224.length : Int) > 0
 ·rw [if_pos c3] at H
  have c3b0 : decide (0 < (t224.length : Int)) = true := decide_eq_true c3
  have c3b1 : decide (0 < t224.length) = true := decide_eq_true (by omega)
  clear c3;replace H := Option.bind_eq_some_iff.mp H;obtain ⟨⟨t229, t230, t231⟩, A40, H⟩ := H;(try dsimp only at H);have A4 := M_ A40;clear A40
  by_cases c5 : 0 ≤ t229
  ·rw [if_pos c5] at H
   have c5b0 : decide (0 ≤ t229) = true := decide_eq_true c5
   clear c5
   by_cases c6 : t229 < (t224.length : Int)
   ·rw [if_pos c6] at H
    have c6b0 : decide (t229 < (t224.length : Int)) = true := decide_eq_true c6
    clear c6;replace H := Option.bind_eq_some_iff.mp H;obtain ⟨⟨t233, t234, t235⟩, A70, H⟩ := H;(try dsimp only at H);have A7 := M_ A70;clear A70
    by_cases c8 : t233 = 0
    ·rw [if_pos c8] at H
     have c8b0 : (t233 == 0) = true := beq_iff_eq.mpr c8
     have c8b1 : (t233 != 0) = false := bne_eq_false_iff_eq.mpr c8
     clear c8;obtain ⟨y236, hy236⟩ : ∃ y_ : List Int, y_ = (([23, 24, 96, 97] : List Int)) := ⟨_, rfl⟩
     replace H : ((spec_l1Cur_among.f s0_0 t234 t235 y236).bind fun bt239 => (some ((t224.set (t229 : Int).toNat (⟨bt239.1, (rd_T31 t224 t229).f1, (rd_T31 t224 t229).f2⟩ : S31)), bt239.2.1, bt239.2.2))) = some (r1, r2, r3) := by first | (rw [hy236]; with_reducible exact H) | (have H2_ := (Option.bind_some _ _).symm.trans H; rw [hy236]; with_reducible exact H2_) | (have H2_ := (Option.bind_some _ _).symm.trans H; with_reducible exact H2_) | with_reducible exact H | (rw [hy236]; exact H) | exact H
     have Ny236 := M_ hy236;clear hy236;replace H := Option.bind_eq_some_iff.mp H;obtain ⟨⟨t239, t240, t241⟩, A90, H⟩ := H;(try dsimp only at H);have A9 := M_ A90;clear A90;obtain ⟨y242, hy242⟩ : ∃ y_ : List (S31), y_ = (t224.set (t229 : Int).toNat (⟨t239, (rd_T31 t224 t229).f1, (rd_T31 t224 t229).f2⟩ : S31)) := ⟨_, rfl⟩
     replace H : (some (y242, t240, t241)) = some (r1, r2, r3) := by first | (rw [hy242]; with_reducible exact H) | (have H2_ := (Option.bind_some _ _).symm.trans H; rw [hy242]; with_reducible exact H2_) | (have H2_ := (Option.bind_some _ _).symm.trans H; with_reducible exact H2_) | with_reducible exact H | (rw [hy242]; exact H) | exact H
     have Ny242 := M_ hy242;clear hy242;simp only [Option.some.injEq, Prod.mk.injEq] at H;obtain ⟨rfl, rfl, rfl⟩ := H
     go_enter Tryz.func41, Tryz.ntmps41
     go_wp2_with (first | ((with_reducible refine gc_ 59 ?_); refine gM_ (some 6) Tryz.func59 #[.pointer (some ⟨g, 0, none⟩)] ?_; (with_reducible refine (spec_l1Cur_score.calls k g s0_0 s0_1 s0_2 t224 t227 t228 w0 _ ?side1 ?side2 A2.out).mono ?_); (case side1 => exact iU_ HI0); (case side2 => exact bU_ HB); rintro e w11 ⟨v225, rfl, ho0, hi, hb, hk⟩; refine ⟨_, rfl, ?_⟩; have HO226 := M_ (Kd.R_lower ho0 (pS_ (w := w) (g := g) HK)); replace HK := M_ (pT_ HK hk); replace HB := M_ (hb); replace HI0 := M_ (hi); clear hb hk hi ho0; obtain ⟨Ao12, co12, eo12⟩ := Kd.R_slice HO226.out; subst eo12) | ((with_reducible refine gc_ 42 ?_); refine gM_ (some 14) Tryz.func42 #[.pointer (some ⟨g, 0, none⟩), .int .i64 (t224.length : Int)] ?_; (with_reducible refine (spec_l1Cur_pick.calls g s0_0 t227 t228 (t224.length : Int) t229 t230 t231 w0 _ ?side1 ?side2 A4.out).mono ?_); (case side1 => exact iU_ HI0); (case side2 => exact bU_ HB); rintro e w13 ⟨rfl, hi, hb, hk⟩; refine ⟨_, rfl, ?_⟩; replace HO226 := M_ (ik_ HI0 HO226 hk); replace HK := M_ (pT_ HK hk); replace HB := M_ (hb); replace HI0 := M_ (hi); clear hb hk hi; have p232 : 0 ≤ (t229 : Int) := dT_; have q232 : t229 < (t224.length : Int) := dT_; obtain ⟨ad232, e232, hx232_0, hx232_1, hx232_2⟩ := at_T31 (Kd.R_reads' HO226.out).2.2 t229 p232 q232; cases e232; replace p232 := eq_true p232; replace q232 := eq_true q232) | ((with_reducible refine gc_ 42 ?_); refine gM_ (some 17) Tryz.func42 #[.pointer (some ⟨g, 0, none⟩), .int .i64 36] ?_; (with_reducible refine (spec_l1Cur_pick.calls g s0_0 t230 t231 36 t233 t234 t235 w0 _ ?side1 ?side2 A7.out).mono ?_); (case side1 => exact iU_ HI0); (case side2 => exact bU_ HB); rintro e w14 ⟨rfl, hi, hb, hk⟩; refine ⟨_, rfl, ?_⟩; replace HO226 := M_ (ik_ HI0 HO226 hk); replace HK := M_ (pT_ HK hk); replace HB := M_ (hb); replace HI0 := M_ (hi); clear hb hk hi) | ((with_reducible refine gate_dst (N := 22) rfl ?_); refine lt_ (Kd.int .i64) 3 (N := 22) (([23, 24, 96, 97] : List Int)) [.int .i64 23, .int .i64 24, .int .i64 96, .int .i64 97] ri_ ?_; intro v237 w15 ho16 hb hg_ hnew_; clear hg_ hnew_; replace ho16 := rN_ Ny236 ho16; replace HO226 := M_ (rB_ HO226 hb); have HO238 := M_ (Kd.R_lower ho16 (pS_ (w := w) (g := g) HK)); replace HI0 := M_ (IsS58.below (iU_ HI0) hb); replace HK := M_ (pB_ HK hb); replace HB := M_ (bS_ HB hb); clear hb ho16; obtain ⟨Ao17, co17, eo17⟩ := Kd.R_slice HO238.out; subst eo17) | ((with_reducible refine gc_ 50 ?_); refine gM_ (some 23) Tryz.func50 #[.pointer (some ⟨g, 0, none⟩), .slice Ao17 y236.length co17] ?_; (with_reducible refine (spec_l1Cur_among.calls g s0_0 t234 t235 _ _ y236 t239 t240 t241 w0 _ ?side1 ?side2 ?side3 ?side4 ?side5 A9.out).mono ?_); (case side1 => exact iU_ HI0); (case side2 => exact bU_ HB); (case side3 => exact cU_ (Kd.R_reads' HO238.out).2.2); (case side4 => exact (Kd.R_reads' HO238.out).2.1); (case side5 => exact far_slice (IsS58.own_ne HI0.out HO238.out (by decide))); rintro e w18 ⟨rfl, hi, hb, hk⟩; refine ⟨_, rfl, ?_⟩; replace HO226 := M_ (ik_ HI0 HO226 hk); replace HO238 := M_ (ik_ HI0 HO238 hk); replace HK := M_ (pT_ HK hk); replace HB := M_ (hb); replace HI0 := M_ (hi); clear hb hk hi; have p10 : 0 ≤ (t229 : Int) := dT_; have q10 : (t229 : Int) < ((t224.length : Int) : Int) := dT_; obtain ⟨go10, co10, eo10, gb10, gl10, cl10, HG10⟩ := Kd.R_form HO226.out (by omega); (first | cases eo10 | (injection eo10 with ea_ en_ ec_; (first | subst ea_ | (injection ea_ with ea_; subst ea_)); subst ec_; clear en_)); have GB10 := M_ gb10; have GG10 := M_ HG10; clear gb10 gl10 HG10; (first | simp only [add_plain] at hx232_0 | skip); (first | simp only [add_plain] at hx232_1 | skip); (first | simp only [add_plain] at hx232_2 | skip); obtain ⟨ce10, hcl10, hM10, hcc10, hfr10⟩ := Kd.R_elem HO226.out z31 (t229 : Int) p10 q10; obtain rfl := k31_openM hM10; have hx10_0 : w18.cell? ⟨go10, (t229 : Int).toNat * 3, none⟩ = some (.int .i64 ((rd_T31 t224 t229).f0)) := hcc10 0 _ rfl; have hx10_1 : w18.cell? ⟨go10, (t229 : Int).toNat * 3 + 1, none⟩ = some (.int .i64 ((rd_T31 t224 t229).f1)) := hcc10 1 _ rfl; have hx10_2 : w18.cell? ⟨go10, (t229 : Int).toNat * 3 + 2, none⟩ = some (.int .i64 ((rd_T31 t224 t229).f2)) := hcc10 2 _ rfl; have hf10_0 : w18.frozen? ⟨go10, (t229 : Int).toNat * 3, none⟩ = false := hfr10 0; have hf10_1 : w18.frozen? ⟨go10, (t229 : Int).toNat * 3 + 1, none⟩ = false := hfr10 1; have hf10_2 : w18.frozen? ⟨go10, (t229 : Int).toNat * 3 + 2, none⟩ = false := hfr10 2; clear hcl10 hcc10 hfr10 hM10; replace p10 := eq_true p10; replace q10 := eq_true q10; have HX19 := M_ (show Kd.R k31 31 w18 w.heap.size (fun _ => True) (.slice (some ⟨go10, 0, none⟩) t224.length co12) t224 from (rU_ HO226.out)); obtain ⟨ce19, hcl19, hM19, hcc19, hfr19⟩ := Kd.R_elem HX19.out z31 (t229 : Int) (dT_) (by have h_ : (t229 : Int) < ((t224.length : Int) : Int) := dT_; first | exact h_ | (have e_ := (Kd.R_reads' HO226.out).1; omega) | simpa using h_); obtain rfl := k31_openM hM19; have HP19 := Kd.R_seg HX19.out (t229 : Int) (dT_) (by have h_ : (t229 : Int) < ((t224.length : Int) : Int) := dT_; first | exact h_ | (have e_ := (Kd.R_reads' HO226.out).1; omega) | simpa using h_) (seg := [.int .i64 t239]) (j := 0) hcl19 hcc19 (show 1 ≤ 3 from by decide) (x' := (⟨t239, (rd_T31 t224 t229).f1, (rd_T31 t224 t229).f2⟩ : S31)) (k31_mkM _ _ _ (⟨t239, (rd_T31 t224 t229).f1, (rd_T31 t224 t229).f2⟩ : S31) ) (fun _ hk => hk); have hx19_0 := hcc19 0 _ rfl; (try simp only [show (k31).sz = 3 from rfl, Nat.mul_one, Nat.add_zero] at hx19_0); have hf19_0 := hfr19 0; (try simp only [show (k31).sz = 3 from rfl, Nat.mul_one, Nat.add_zero] at hf19_0); clear hcl19 hcc19 hfr19 hM19) | ((with_reducible refine gate_store (t := 3) (p := 25) rfl ?_); refine store_event (t := 3) (p := 25) (v := ?vo_w20) (w1 := (w18.setCell ⟨go10, (t229 : Int).toNat * 3, none⟩ (.int .i64 t239))) ?hg ?ho ?hn ?hr ?_; (case ho => rfl); (case hg => rfl); (case hn => rfl); (case hr => first | (go_simp; done) | (go_simp; rfl)); intro w20 hw; have hg : w18.grownBy w20 (some go10) := (by rw [hw]; exact HP19.2); have hp_ : Kd.R k31 31 w20 w.heap.size (fun _ => True) (.slice (some ⟨go10, 0, none⟩) t224.length co12) y242 := (by rw [hw, Ny242.out]; exact HP19.1); clear HP19; replace HI0 := M_ (IsS58.grown (iU_ HI0) hg (IsS58.own_ne HI0.out HO226.out (by decide))); replace HO238 := M_ (Kd.R_over' (v := (.slice (some ⟨go10, 0, none⟩) t224.length co12)) (rU_ HO238.out) (Kd.R_typed HO226.out) (by decide) hg); replace HB := M_ ((by rw [hw]; exact bs_ (HB.out) (Nat.le_trans HL.out GB10.out) : Below w0.heap.size w0 w20)); replace HK := M_ (KeepBut.trans (pU_ HK) (KeepBut.of_grown hg g) (Kd.R_base2 HO226.out)); replace HO226 := M_ (hp_); clear hg hw hp_))
     go_ret
     exact ⟨_, eR_, rU_ HO226.out, by (try simp only [show IntKind.u64.wrap 0 = 0 from rfl, Int.add_zero]); exact iU_ HI0, bU_ HB, pU_ HK⟩
    ·rw [if_neg c8] at H
     have c8b0 : (t233 == 0) = false := beq_eq_false_iff_ne.mpr c8
     have c8b1 : (t233 != 0) = true := bne_iff_ne.mpr c8
     by_cases c21 : t233 = 1
     ·rw [if_pos c21] at H
      have c21b0 : (t233 == 1) = true := beq_iff_eq.mpr c21
      have c21b1 : (t233 != 1) = false := bne_eq_false_iff_eq.mpr c21
      clear c21;obtain ⟨y243, hy243⟩ : ∃ y_ : List Int, y_ = (([(-1), 0, 999, 1000] : List Int)) := ⟨_, rfl⟩
      replace H : ((spec_l1Cur_among.f s0_0 t234 t235 y243).bind fun bt246 => (some ((t224.set (t229 : Int).toNat (⟨(rd_T31 t224 t229).f0, bt246.1, (rd_T31 t224 t229).f2⟩ : S31)), bt246.2.1, bt246.2.2))) = some (r1, r2, r3) := by first | (rw [hy243]; with_reducible exact H) | (have H2_ := (Option.bind_some _ _).symm.trans H; rw [hy243]; with_reducible exact H2_) | (have H2_ := (Option.bind_some _ _).symm.trans H; with_reducible exact H2_) | with_reducible exact H | (rw [hy243]; exact H) | exact H
      have Ny243 := M_ hy243;clear hy243;replace H := Option.bind_eq_some_iff.mp H;obtain ⟨⟨t246, t247, t248⟩, A220, H⟩ := H;(try dsimp only at H);have A22 := M_ A220;clear A220;obtain ⟨y249, hy249⟩ : ∃ y_ : List (S31), y_ = (t224.set (t229 : Int).toNat (⟨(rd_T31 t224 t229).f0, t246, (rd_T31 t224 t229).f2⟩ : S31)) := ⟨_, rfl⟩
      replace H : (some (y249, t247, t248)) = some (r1, r2, r3) := by first | (rw [hy249]; with_reducible exact H) | (have H2_ := (Option.bind_some _ _).symm.trans H; rw [hy249]; with_reducible exact H2_) | (have H2_ := (Option.bind_some _ _).symm.trans H; with_reducible exact H2_) | with_reducible exact H | (rw [hy249]; exact H) | exact H
      have Ny249 := M_ hy249;clear hy249;simp only [Option.some.injEq, Prod.mk.injEq] at H;obtain ⟨rfl, rfl, rfl⟩ := H
      go_enter Tryz.func41, Tryz.ntmps41
      go_wp2_with (first | ((with_reducible refine gc_ 59 ?_); refine gM_ (some 6) Tryz.func59 #[.pointer (some ⟨g, 0, none⟩)] ?_; (with_reducible refine (spec_l1Cur_score.calls k g s0_0 s0_1 s0_2 t224 t227 t228 w0 _ ?side1 ?side2 A2.out).mono ?_); (case side1 => exact iU_ HI0); (case side2 => exact bU_ HB); rintro e w24 ⟨v225, rfl, ho0, hi, hb, hk⟩; refine ⟨_, rfl, ?_⟩; have HO226 := M_ (Kd.R_lower ho0 (pS_ (w := w) (g := g) HK)); replace HK := M_ (pT_ HK hk); replace HB := M_ (hb); replace HI0 := M_ (hi); clear hb hk hi ho0; obtain ⟨Ao25, co25, eo25⟩ := Kd.R_slice HO226.out; subst eo25) | ((with_reducible refine gc_ 42 ?_); refine gM_ (some 14) Tryz.func42 #[.pointer (some ⟨g, 0, none⟩), .int .i64 (t224.length : Int)] ?_; (with_reducible refine (spec_l1Cur_pick.calls g s0_0 t227 t228 (t224.length : Int) t229 t230 t231 w0 _ ?side1 ?side2 A4.out).mono ?_); (case side1 => exact iU_ HI0); (case side2 => exact bU_ HB); rintro e w26 ⟨rfl, hi, hb, hk⟩; refine ⟨_, rfl, ?_⟩; replace HO226 := M_ (ik_ HI0 HO226 hk); replace HK := M_ (pT_ HK hk); replace HB := M_ (hb); replace HI0 := M_ (hi); clear hb hk hi; have p232 : 0 ≤ (t229 : Int) := dT_; have q232 : t229 < (t224.length : Int) := dT_; obtain ⟨ad232, e232, hx232_0, hx232_1, hx232_2⟩ := at_T31 (Kd.R_reads' HO226.out).2.2 t229 p232 q232; cases e232; replace p232 := eq_true p232; replace q232 := eq_true q232) | ((with_reducible refine gc_ 42 ?_); refine gM_ (some 17) Tryz.func42 #[.pointer (some ⟨g, 0, none⟩), .int .i64 36] ?_; (with_reducible refine (spec_l1Cur_pick.calls g s0_0 t230 t231 36 t233 t234 t235 w0 _ ?side1 ?side2 A7.out).mono ?_); (case side1 => exact iU_ HI0); (case side2 => exact bU_ HB); rintro e w27 ⟨rfl, hi, hb, hk⟩; refine ⟨_, rfl, ?_⟩; replace HO226 := M_ (ik_ HI0 HO226 hk); replace HK := M_ (pT_ HK hk); replace HB := M_ (hb); replace HI0 := M_ (hi); clear hb hk hi) | ((with_reducible refine gate_dst (N := 30) rfl ?_); refine lt_ (Kd.int .i64) 3 (N := 30) (([(-1), 0, 999, 1000] : List Int)) [.int .i64 (-1), .int .i64 0, .int .i64 999, .int .i64 1000] ri_ ?_; intro v244 w28 ho29 hb hg_ hnew_; clear hg_ hnew_; replace ho29 := rN_ Ny243 ho29; replace HO226 := M_ (rB_ HO226 hb); have HO245 := M_ (Kd.R_lower ho29 (pS_ (w := w) (g := g) HK)); replace HI0 := M_ (IsS58.below (iU_ HI0) hb); replace HK := M_ (pB_ HK hb); replace HB := M_ (bS_ HB hb); clear hb ho29; obtain ⟨Ao30, co30, eo30⟩ := Kd.R_slice HO245.out; subst eo30) | ((with_reducible refine gc_ 50 ?_); refine gM_ (some 31) Tryz.func50 #[.pointer (some ⟨g, 0, none⟩), .slice Ao30 y243.length co30] ?_; (with_reducible refine (spec_l1Cur_among.calls g s0_0 t234 t235 _ _ y243 t246 t247 t248 w0 _ ?side1 ?side2 ?side3 ?side4 ?side5 A22.out).mono ?_); (case side1 => exact iU_ HI0); (case side2 => exact bU_ HB); (case side3 => exact cU_ (Kd.R_reads' HO245.out).2.2); (case side4 => exact (Kd.R_reads' HO245.out).2.1); (case side5 => exact far_slice (IsS58.own_ne HI0.out HO245.out (by decide))); rintro e w31 ⟨rfl, hi, hb, hk⟩; refine ⟨_, rfl, ?_⟩; replace HO226 := M_ (ik_ HI0 HO226 hk); replace HO245 := M_ (ik_ HI0 HO245 hk); replace HK := M_ (pT_ HK hk); replace HB := M_ (hb); replace HI0 := M_ (hi); clear hb hk hi; have p23 : 0 ≤ (t229 : Int) := dT_; have q23 : (t229 : Int) < ((t224.length : Int) : Int) := dT_; obtain ⟨go23, co23, eo23, gb23, gl23, cl23, HG23⟩ := Kd.R_form HO226.out (by omega); (first | cases eo23 | (injection eo23 with ea_ en_ ec_; (first | subst ea_ | (injection ea_ with ea_; subst ea_)); subst ec_; clear en_)); have GB23 := M_ gb23; have GG23 := M_ HG23; clear gb23 gl23 HG23; (first | simp only [add_plain] at hx232_0 | skip); (first | simp only [add_plain] at hx232_1 | skip); (first | simp only [add_plain] at hx232_2 | skip); obtain ⟨ce23, hcl23, hM23, hcc23, hfr23⟩ := Kd.R_elem HO226.out z31 (t229 : Int) p23 q23; obtain rfl := k31_openM hM23; have hx23_0 : w31.cell? ⟨go23, (t229 : Int).toNat * 3, none⟩ = some (.int .i64 ((rd_T31 t224 t229).f0)) := hcc23 0 _ rfl; have hx23_1 : w31.cell? ⟨go23, (t229 : Int).toNat * 3 + 1, none⟩ = some (.int .i64 ((rd_T31 t224 t229).f1)) := hcc23 1 _ rfl; have hx23_2 : w31.cell? ⟨go23, (t229 : Int).toNat * 3 + 2, none⟩ = some (.int .i64 ((rd_T31 t224 t229).f2)) := hcc23 2 _ rfl; have hf23_0 : w31.frozen? ⟨go23, (t229 : Int).toNat * 3, none⟩ = false := hfr23 0; have hf23_1 : w31.frozen? ⟨go23, (t229 : Int).toNat * 3 + 1, none⟩ = false := hfr23 1; have hf23_2 : w31.frozen? ⟨go23, (t229 : Int).toNat * 3 + 2, none⟩ = false := hfr23 2; clear hcl23 hcc23 hfr23 hM23; replace p23 := eq_true p23; replace q23 := eq_true q23; have HX32 := M_ (show Kd.R k31 31 w31 w.heap.size (fun _ => True) (.slice (some ⟨go23, 0, none⟩) t224.length co25) t224 from (rU_ HO226.out)); obtain ⟨ce32, hcl32, hM32, hcc32, hfr32⟩ := Kd.R_elem HX32.out z31 (t229 : Int) (dT_) (by have h_ : (t229 : Int) < ((t224.length : Int) : Int) := dT_; first | exact h_ | (have e_ := (Kd.R_reads' HO226.out).1; omega) | simpa using h_); obtain rfl := k31_openM hM32; have HP32 := Kd.R_seg HX32.out (t229 : Int) (dT_) (by have h_ : (t229 : Int) < ((t224.length : Int) : Int) := dT_; first | exact h_ | (have e_ := (Kd.R_reads' HO226.out).1; omega) | simpa using h_) (seg := [.int .i64 t246]) (j := 1) hcl32 hcc32 (show 2 ≤ 3 from by decide) (x' := (⟨(rd_T31 t224 t229).f0, t246, (rd_T31 t224 t229).f2⟩ : S31)) (k31_mkM _ _ _ (⟨(rd_T31 t224 t229).f0, t246, (rd_T31 t224 t229).f2⟩ : S31) ) (fun _ hk => hk); have hx32_1 := hcc32 1 _ rfl; (try simp only [show (k31).sz = 3 from rfl, Nat.mul_one, Nat.add_zero] at hx32_1); have hf32_1 := hfr32 1; (try simp only [show (k31).sz = 3 from rfl, Nat.mul_one, Nat.add_zero] at hf32_1); clear hcl32 hcc32 hfr32 hM32) | ((with_reducible refine gate_store (t := 3) (p := 33) rfl ?_); refine store_event (t := 3) (p := 33) (v := ?vo_w33) (w1 := (w31.setCell ⟨go23, (t229 : Int).toNat * 3 + 1, none⟩ (.int .i64 t246))) ?hg ?ho ?hn ?hr ?_; (case ho => rfl); (case hg => rfl); (case hn => rfl); (case hr => first | (go_simp; done) | (go_simp; rfl)); intro w33 hw; have hg : w31.grownBy w33 (some go23) := (by rw [hw]; exact HP32.2); have hp_ : Kd.R k31 31 w33 w.heap.size (fun _ => True) (.slice (some ⟨go23, 0, none⟩) t224.length co25) y249 := (by rw [hw, Ny249.out]; exact HP32.1); clear HP32; replace HI0 := M_ (IsS58.grown (iU_ HI0) hg (IsS58.own_ne HI0.out HO226.out (by decide))); replace HO245 := M_ (Kd.R_over' (v := (.slice (some ⟨go23, 0, none⟩) t224.length co25)) (rU_ HO245.out) (Kd.R_typed HO226.out) (by decide) hg); replace HB := M_ ((by rw [hw]; exact bs_ (HB.out) (Nat.le_trans HL.out GB23.out) : Below w0.heap.size w0 w33)); replace HK := M_ (KeepBut.trans (pU_ HK) (KeepBut.of_grown hg g) (Kd.R_base2 HO226.out)); replace HO226 := M_ (hp_); clear hg hw hp_))
      go_ret
      exact ⟨_, eR_, rU_ HO226.out, by (try simp only [show IntKind.u64.wrap 0 = 0 from rfl, Int.add_zero]); exact iU_ HI0, bU_ HB, pU_ HK⟩
     ·rw [if_neg c21] at H
      have c21b0 : (t233 == 1) = false := beq_eq_false_iff_ne.mpr c21
      have c21b1 : (t233 != 1) = true := bne_iff_ne.mpr c21
      by_cases c34 : t233 = 2
      ·rw [if_pos c34] at H
       have c34b0 : (t233 == 2) = true := beq_iff_eq.mpr c34
       have c34b1 : (t233 != 2) = false := bne_eq_false_iff_eq.mpr c34
       clear c34;obtain ⟨y250, hy250⟩ : ∃ y_ : List Int, y_ = (([0, 99, 100] : List Int)) := ⟨_, rfl⟩
       replace H : ((spec_l1Cur_among.f s0_0 t234 t235 y250).bind fun bt253 => (some ((t224.set (t229 : Int).toNat (⟨(rd_T31 t224 t229).f0, (rd_T31 t224 t229).f1, bt253.1⟩ : S31)), bt253.2.1, bt253.2.2))) = some (r1, r2, r3) := by first | (rw [hy250]; with_reducible exact H) | (have H2_ := (Option.bind_some _ _).symm.trans H; rw [hy250]; with_reducible exact H2_) | (have H2_ := (Option.bind_some _ _).symm.trans H; with_reducible exact H2_) | with_reducible exact H | (rw [hy250]; exact H) | exact H
       have Ny250 := M_ hy250;clear hy250;replace H := Option.bind_eq_some_iff.mp H;obtain ⟨⟨t253, t254, t255⟩, A350, H⟩ := H;(try dsimp only at H);have A35 := M_ A350;clear A350;obtain ⟨y256, hy256⟩ : ∃ y_ : List (S31), y_ = (t224.set (t229 : Int).toNat (⟨(rd_T31 t224 t229).f0, (rd_T31 t224 t229).f1, t253⟩ : S31)) := ⟨_, rfl⟩
       replace H : (some (y256, t254, t255)) = some (r1, r2, r3) := by first | (rw [hy256]; with_reducible exact H) | (have H2_ := (Option.bind_some _ _).symm.trans H; rw [hy256]; with_reducible exact H2_) | (have H2_ := (Option.bind_some _ _).symm.trans H; with_reducible exact H2_) | with_reducible exact H | (rw [hy256]; exact H) | exact H
       have Ny256 := M_ hy256;clear hy256;simp only [Option.some.injEq, Prod.mk.injEq] at H;obtain ⟨rfl, rfl, rfl⟩ := H
       go_enter Tryz.func41, Tryz.ntmps41
       go_wp2_with (first | ((with_reducible refine gc_ 59 ?_); refine gM_ (some 6) Tryz.func59 #[.pointer (some ⟨g, 0, none⟩)] ?_; (with_reducible refine (spec_l1Cur_score.calls k g s0_0 s0_1 s0_2 t224 t227 t228 w0 _ ?side1 ?side2 A2.out).mono ?_); (case side1 => exact iU_ HI0); (case side2 => exact bU_ HB); rintro e w37 ⟨v225, rfl, ho0, hi, hb, hk⟩; refine ⟨_, rfl, ?_⟩; have HO226 := M_ (Kd.R_lower ho0 (pS_ (w := w) (g := g) HK)); replace HK := M_ (pT_ HK hk); replace HB := M_ (hb); replace HI0 := M_ (hi); clear hb hk hi ho0; obtain ⟨Ao38, co38, eo38⟩ := Kd.R_slice HO226.out; subst eo38) | ((with_reducible refine gc_ 42 ?_); refine gM_ (some 14) Tryz.func42 #[.pointer (some ⟨g, 0, none⟩), .int .i64 (t224.length : Int)] ?_; (with_reducible refine (spec_l1Cur_pick.calls g s0_0 t227 t228 (t224.length : Int) t229 t230 t231 w0 _ ?side1 ?side2 A4.out).mono ?_); (case side1 => exact iU_ HI0); (case side2 => exact bU_ HB); rintro e w39 ⟨rfl, hi, hb, hk⟩; refine ⟨_, rfl, ?_⟩; replace HO226 := M_ (ik_ HI0 HO226 hk); replace HK := M_ (pT_ HK hk); replace HB := M_ (hb); replace HI0 := M_ (hi); clear hb hk hi; have p232 : 0 ≤ (t229 : Int) := dT_; have q232 : t229 < (t224.length : Int) := dT_; obtain ⟨ad232, e232, hx232_0, hx232_1, hx232_2⟩ := at_T31 (Kd.R_reads' HO226.out).2.2 t229 p232 q232; cases e232; replace p232 := eq_true p232; replace q232 := eq_true q232) | ((with_reducible refine gc_ 42 ?_); refine gM_ (some 17) Tryz.func42 #[.pointer (some ⟨g, 0, none⟩), .int .i64 36] ?_; (with_reducible refine (spec_l1Cur_pick.calls g s0_0 t230 t231 36 t233 t234 t235 w0 _ ?side1 ?side2 A7.out).mono ?_); (case side1 => exact iU_ HI0); (case side2 => exact bU_ HB); rintro e w40 ⟨rfl, hi, hb, hk⟩; refine ⟨_, rfl, ?_⟩; replace HO226 := M_ (ik_ HI0 HO226 hk); replace HK := M_ (pT_ HK hk); replace HB := M_ (hb); replace HI0 := M_ (hi); clear hb hk hi) | ((with_reducible refine gate_dst (N := 38) rfl ?_); refine lt_ (Kd.int .i64) 3 (N := 38) (([0, 99, 100] : List Int)) [.int .i64 0, .int .i64 99, .int .i64 100] ri_ ?_; intro v251 w41 ho42 hb hg_ hnew_; clear hg_ hnew_; replace ho42 := rN_ Ny250 ho42; replace HO226 := M_ (rB_ HO226 hb); have HO252 := M_ (Kd.R_lower ho42 (pS_ (w := w) (g := g) HK)); replace HI0 := M_ (IsS58.below (iU_ HI0) hb); replace HK := M_ (pB_ HK hb); replace HB := M_ (bS_ HB hb); clear hb ho42; obtain ⟨Ao43, co43, eo43⟩ := Kd.R_slice HO252.out; subst eo43) | ((with_reducible refine gc_ 50 ?_); refine gM_ (some 39) Tryz.func50 #[.pointer (some ⟨g, 0, none⟩), .slice Ao43 y250.length co43] ?_; (with_reducible refine (spec_l1Cur_among.calls g s0_0 t234 t235 _ _ y250 t253 t254 t255 w0 _ ?side1 ?side2 ?side3 ?side4 ?side5 A35.out).mono ?_); (case side1 => exact iU_ HI0); (case side2 => exact bU_ HB); (case side3 => exact cU_ (Kd.R_reads' HO252.out).2.2); (case side4 => exact (Kd.R_reads' HO252.out).2.1); (case side5 => exact far_slice (IsS58.own_ne HI0.out HO252.out (by decide))); rintro e w44 ⟨rfl, hi, hb, hk⟩; refine ⟨_, rfl, ?_⟩; replace HO226 := M_ (ik_ HI0 HO226 hk); replace HO252 := M_ (ik_ HI0 HO252 hk); replace HK := M_ (pT_ HK hk); replace HB := M_ (hb); replace HI0 := M_ (hi); clear hb hk hi; have p36 : 0 ≤ (t229 : Int) := dT_; have q36 : (t229 : Int) < ((t224.length : Int) : Int) := dT_; obtain ⟨go36, co36, eo36, gb36, gl36, cl36, HG36⟩ := Kd.R_form HO226.out (by omega); (first | cases eo36 | (injection eo36 with ea_ en_ ec_; (first | subst ea_ | (injection ea_ with ea_; subst ea_)); subst ec_; clear en_)); have GB36 := M_ gb36; have GG36 := M_ HG36; clear gb36 gl36 HG36; (first | simp only [add_plain] at hx232_0 | skip); (first | simp only [add_plain] at hx232_1 | skip); (first | simp only [add_plain] at hx232_2 | skip); obtain ⟨ce36, hcl36, hM36, hcc36, hfr36⟩ := Kd.R_elem HO226.out z31 (t229 : Int) p36 q36; obtain rfl := k31_openM hM36; have hx36_0 : w44.cell? ⟨go36, (t229 : Int).toNat * 3, none⟩ = some (.int .i64 ((rd_T31 t224 t229).f0)) := hcc36 0 _ rfl; have hx36_1 : w44.cell? ⟨go36, (t229 : Int).toNat * 3 + 1, none⟩ = some (.int .i64 ((rd_T31 t224 t229).f1)) := hcc36 1 _ rfl; have hx36_2 : w44.cell? ⟨go36, (t229 : Int).toNat * 3 + 2, none⟩ = some (.int .i64 ((rd_T31 t224 t229).f2)) := hcc36 2 _ rfl; have hf36_0 : w44.frozen? ⟨go36, (t229 : Int).toNat * 3, none⟩ = false := hfr36 0; have hf36_1 : w44.frozen? ⟨go36, (t229 : Int).toNat * 3 + 1, none⟩ = false := hfr36 1; have hf36_2 : w44.frozen? ⟨go36, (t229 : Int).toNat * 3 + 2, none⟩ = false := hfr36 2; clear hcl36 hcc36 hfr36 hM36; replace p36 := eq_true p36; replace q36 := eq_true q36; have HX45 := M_ (show Kd.R k31 31 w44 w.heap.size (fun _ => True) (.slice (some ⟨go36, 0, none⟩) t224.length co38) t224 from (rU_ HO226.out)); obtain ⟨ce45, hcl45, hM45, hcc45, hfr45⟩ := Kd.R_elem HX45.out z31 (t229 : Int) (dT_) (by have h_ : (t229 : Int) < ((t224.length : Int) : Int) := dT_; first | exact h_ | (have e_ := (Kd.R_reads' HO226.out).1; omega) | simpa using h_); obtain rfl := k31_openM hM45; have HP45 := Kd.R_seg HX45.out (t229 : Int) (dT_) (by have h_ : (t229 : Int) < ((t224.length : Int) : Int) := dT_; first | exact h_ | (have e_ := (Kd.R_reads' HO226.out).1; omega) | simpa using h_) (seg := [.int .i64 t253]) (j := 2) hcl45 hcc45 (show 3 ≤ 3 from by decide) (x' := (⟨(rd_T31 t224 t229).f0, (rd_T31 t224 t229).f1, t253⟩ : S31)) (k31_mkM _ _ _ (⟨(rd_T31 t224 t229).f0, (rd_T31 t224 t229).f1, t253⟩ : S31) ) (fun _ hk => hk); have hx45_2 := hcc45 2 _ rfl; (try simp only [show (k31).sz = 3 from rfl, Nat.mul_one, Nat.add_zero] at hx45_2); have hf45_2 := hfr45 2; (try simp only [show (k31).sz = 3 from rfl, Nat.mul_one, Nat.add_zero] at hf45_2); clear hcl45 hcc45 hfr45 hM45) | ((with_reducible refine gate_store (t := 3) (p := 41) rfl ?_); refine store_event (t := 3) (p := 41) (v := ?vo_w46) (w1 := (w44.setCell ⟨go36, (t229 : Int).toNat * 3 + 2, none⟩ (.int .i64 t253))) ?hg ?ho ?hn ?hr ?_; (case ho => rfl); (case hg => rfl); (case hn => rfl); (case hr => first | (go_simp; done) | (go_simp; rfl)); intro w46 hw; have hg : w44.grownBy w46 (some go36) := (by rw [hw]; exact HP45.2); have hp_ : Kd.R k31 31 w46 w.heap.size (fun _ => True) (.slice (some ⟨go36, 0, none⟩) t224.length co38) y256 := (by rw [hw, Ny256.out]; exact HP45.1); clear HP45; replace HI0 := M_ (IsS58.grown (iU_ HI0) hg (IsS58.own_ne HI0.out HO226.out (by decide))); replace HO252 := M_ (Kd.R_over' (v := (.slice (some ⟨go36, 0, none⟩) t224.length co38)) (rU_ HO252.out) (Kd.R_typed HO226.out) (by decide) hg); replace HB := M_ ((by rw [hw]; exact bs_ (HB.out) (Nat.le_trans HL.out GB36.out) : Below w0.heap.size w0 w46)); replace HK := M_ (KeepBut.trans (pU_ HK) (KeepBut.of_grown hg g) (Kd.R_base2 HO226.out)); replace HO226 := M_ (hp_); clear hg hw hp_))
       go_ret
       exact ⟨_, eR_, rU_ HO226.out, by (try simp only [show IntKind.u64.wrap 0 = 0 from rfl, Int.add_zero]); exact iU_ HI0, bU_ HB, pU_ HK⟩
      ·rw [if_neg c34] at H
       have c34b0 : (t233 == 2) = false := beq_eq_false_iff_ne.mpr c34
       have c34b1 : (t233 != 2) = true := bne_iff_ne.mpr c34
       by_cases c47 : t233 = 3
       ·rw [if_pos c47] at H
        have c47b0 : (t233 == 3) = true := beq_iff_eq.mpr c47
        have c47b1 : (t233 != 3) = false := bne_eq_false_iff_eq.mpr c47
        clear c47
        by_cases c48 : 0 < (t224.length : Int)
        ·rw [if_pos c48] at H
         have c48b0 : decide (0 < (t224.length : Int)) = true := decide_eq_true c48
         have c48b1 : decide (0 < t224.length) = true := decide_eq_true (by omega)
         clear c48
         by_cases c49 : t224.length < 5864062014805
         ·rw [if_pos c49] at H
          have LMc49 := M_ c49;clear c49;obtain ⟨y258, hy258⟩ : ∃ y_ : List (S31), y_ = (t224 ++ [(⟨(rd_T31 t224 0).f0, (rd_T31 t224 0).f1, (rd_T31 t224 0).f2⟩ : S31)]) := ⟨_, rfl⟩
          replace H : (some (y258, t234, t235)) = some (r1, r2, r3) := by first | (rw [hy258]; with_reducible exact H) | (have H2_ := (Option.bind_some _ _).symm.trans H; rw [hy258]; with_reducible exact H2_) | (have H2_ := (Option.bind_some _ _).symm.trans H; with_reducible exact H2_) | with_reducible exact H | (rw [hy258]; exact H) | exact H
          have Ny258 := M_ hy258;clear hy258;simp only [Option.some.injEq, Prod.mk.injEq] at H;obtain ⟨rfl, rfl, rfl⟩ := H
          go_enter Tryz.func41, Tryz.ntmps41
          go_wp2_with (first | ((with_reducible refine gc_ 59 ?_); refine gM_ (some 6) Tryz.func59 #[.pointer (some ⟨g, 0, none⟩)] ?_; (with_reducible refine (spec_l1Cur_score.calls k g s0_0 s0_1 s0_2 t224 t227 t228 w0 _ ?side1 ?side2 A2.out).mono ?_); (case side1 => exact iU_ HI0); (case side2 => exact bU_ HB); rintro e w50 ⟨v225, rfl, ho0, hi, hb, hk⟩; refine ⟨_, rfl, ?_⟩; have HO226 := M_ (Kd.R_lower ho0 (pS_ (w := w) (g := g) HK)); replace HK := M_ (pT_ HK hk); replace HB := M_ (hb); replace HI0 := M_ (hi); clear hb hk hi ho0; obtain ⟨Ao51, co51, eo51⟩ := Kd.R_slice HO226.out; subst eo51) | ((with_reducible refine gc_ 42 ?_); refine gM_ (some 14) Tryz.func42 #[.pointer (some ⟨g, 0, none⟩), .int .i64 (t224.length : Int)] ?_; (with_reducible refine (spec_l1Cur_pick.calls g s0_0 t227 t228 (t224.length : Int) t229 t230 t231 w0 _ ?side1 ?side2 A4.out).mono ?_); (case side1 => exact iU_ HI0); (case side2 => exact bU_ HB); rintro e w52 ⟨rfl, hi, hb, hk⟩; refine ⟨_, rfl, ?_⟩; replace HO226 := M_ (ik_ HI0 HO226 hk); replace HK := M_ (pT_ HK hk); replace HB := M_ (hb); replace HI0 := M_ (hi); clear hb hk hi; have p232 : 0 ≤ (t229 : Int) := dT_; have q232 : t229 < (t224.length : Int) := dT_; obtain ⟨ad232, e232, hx232_0, hx232_1, hx232_2⟩ := at_T31 (Kd.R_reads' HO226.out).2.2 t229 p232 q232; cases e232; replace p232 := eq_true p232; replace q232 := eq_true q232) | ((with_reducible refine gc_ 42 ?_); refine gM_ (some 17) Tryz.func42 #[.pointer (some ⟨g, 0, none⟩), .int .i64 36] ?_; (with_reducible refine (spec_l1Cur_pick.calls g s0_0 t230 t231 36 t233 t234 t235 w0 _ ?side1 ?side2 A7.out).mono ?_); (case side1 => exact iU_ HI0); (case side2 => exact bU_ HB); rintro e w53 ⟨rfl, hi, hb, hk⟩; refine ⟨_, rfl, ?_⟩; replace HO226 := M_ (ik_ HI0 HO226 hk); replace HK := M_ (pT_ HK hk); replace HB := M_ (hb); replace HI0 := M_ (hi); clear hb hk hi; have p257 : 0 ≤ (0 : Int) := (by omega); have q257 : 0 < (t224.length : Int) := dT_; obtain ⟨ad257, e257, hx257_0, hx257_1, hx257_2⟩ := at_T31 (Kd.R_reads' HO226.out).2.2 0 p257 q257; obtain rfl : ad232 = ad257 := (by injection e257); have qi257 : (0 < t224.length) = True := eq_true (by omega); (try rw [show ((0 : Int)).toNat = 0 from rfl] at hx257_0); (try rw [show 0 * 3 = 0 from rfl] at hx257_0); (try rw [Addr.add_zero'] at hx257_0); (try rw [show ((0 : Int)).toNat = 0 from rfl] at hx257_1); (try rw [show 0 * 3 = 0 from rfl] at hx257_1); (try rw [Addr.add_zero'] at hx257_1); (try rw [show ((0 : Int)).toNat = 0 from rfl] at hx257_2); (try rw [show 0 * 3 = 0 from rfl] at hx257_2); (try rw [Addr.add_zero'] at hx257_2); replace p257 := eq_true p257; replace q257 := eq_true q257) | ((with_reducible refine gate_builtin (b := .append) (xs := #[.tmp 44, .tmp 48]) rfl ?_); at_builtin; refine Kd.R_append k31 w.heap.size rfl (.tmp 44) (.tmp 48) 24 31 (.agg #[(.int .i64 0), (.int .i64 0), (.int .i64 0)]) 24 rfl Tryz.underlying24 info31 rfl (by decide) (by omega) (.slice (some ad232) t224.length co51) t224 (⟨(rd_T31 t224 0).f0, (rd_T31 t224 0).f1, (rd_T31 t224 0).f2⟩ : S31) [.int .i64 ((rd_T31 t224 0).f0), .int .i64 ((rd_T31 t224 0).f1), .int .i64 ((rd_T31 t224 0).f2)] (fun _ => True) (fun _ => False) rfl rfl ?aP (fun _ hk => hk.elim) ?aF ?aO (Below.refl _ _) ?aS ?aL ?_; (case aP => exact k31_mkM _ _ _ (⟨(rd_T31 t224 0).f0, (rd_T31 t224 0).f1, (rd_T31 t224 0).f2⟩ : S31)); (case aF => exact (fun _ _ => trivial)); (case aO => exact (rU_ HO226.out)); (case aS => exact (pS_ (w := w) (g := g) HK)); (case aL => have := LMc49.out; omega); intro v259 w54 ho hb hg hat; rw [← Ny258.out] at ho; replace HI0 := M_ (IsS58.grown (iU_ HI0) hg (IsS58.own_ne HI0.out HO226.out (by decide))); replace HB := M_ (below_weaken (bU_ HB) HL.out hb); replace HK := M_ (KeepBut.trans (pU_ HK) (KeepBut.of_grown hg g) (Kd.R_base2 HO226.out)); have HO260 := M_ (ho); clear HO226; clear ho hb hg hat))
          go_ret
          exact ⟨_, eR_, rU_ HO260.out, by (try simp only [show IntKind.u64.wrap 0 = 0 from rfl, Int.add_zero]); exact iU_ HI0, bU_ HB, pU_ HK⟩
         ·rw [if_neg c49] at H
          exact absurd H (by simp)
        ·rw [if_neg c48] at H
         exact absurd H (by simp)
       ·rw [if_neg c47] at H
        have c47b0 : (t233 == 3) = false := beq_eq_false_iff_ne.mpr c47
        have c47b1 : (t233 != 3) = true := bne_iff_ne.mpr c47
        by_cases c55 : t233 = 4
        focus
         rw [if_pos c55] at H
         have c55b0 : (t233 == 4) = true := beq_iff_eq.mpr c55
         have c55b1 : (t233 != 4) = false := bne_eq_false_iff_eq.mpr c55
         clear c55
         have H' := M_ H
         clear H
        rotate_left
        focus
         rw [if_neg c55] at H
         have c55b0 : (t233 == 4) = false := beq_eq_false_iff_ne.mpr c55
         have c55b1 : (t233 != 4) = true := bne_iff_ne.mpr c55
         simp only [Option.some.injEq, Prod.mk.injEq] at H;obtain ⟨rfl, rfl, rfl⟩ := H
        rotate_left
        all_goals
         go_enter Tryz.func41, Tryz.ntmps41
         go_wp2_with (first | ((with_reducible refine gc_ 59 ?_); refine gM_ (some 6) Tryz.func59 #[.pointer (some ⟨g, 0, none⟩)] ?_; (with_reducible refine (spec_l1Cur_score.calls k g s0_0 s0_1 s0_2 t224 t227 t228 w0 _ ?side1 ?side2 A2.out).mono ?_); (case side1 => exact iU_ HI0); (case side2 => exact bU_ HB); rintro e w56 ⟨v225, rfl, ho0, hi, hb, hk⟩; refine ⟨_, rfl, ?_⟩; have HO226 := M_ (Kd.R_lower ho0 (pS_ (w := w) (g := g) HK)); replace HK := M_ (pT_ HK hk); replace HB := M_ (hb); replace HI0 := M_ (hi); clear hb hk hi ho0; obtain ⟨Ao57, co57, eo57⟩ := Kd.R_slice HO226.out; subst eo57) | ((with_reducible refine gc_ 42 ?_); refine gM_ (some 14) Tryz.func42 #[.pointer (some ⟨g, 0, none⟩), .int .i64 (t224.length : Int)] ?_; (with_reducible refine (spec_l1Cur_pick.calls g s0_0 t227 t228 (t224.length : Int) t229 t230 t231 w0 _ ?side1 ?side2 A4.out).mono ?_); (case side1 => exact iU_ HI0); (case side2 => exact bU_ HB); rintro e w58 ⟨rfl, hi, hb, hk⟩; refine ⟨_, rfl, ?_⟩; replace HO226 := M_ (ik_ HI0 HO226 hk); replace HK := M_ (pT_ HK hk); replace HB := M_ (hb); replace HI0 := M_ (hi); clear hb hk hi; have p232 : 0 ≤ (t229 : Int) := dT_; have q232 : t229 < (t224.length : Int) := dT_; obtain ⟨ad232, e232, hx232_0, hx232_1, hx232_2⟩ := at_T31 (Kd.R_reads' HO226.out).2.2 t229 p232 q232; cases e232; replace p232 := eq_true p232; replace q232 := eq_true q232) | ((with_reducible refine gc_ 42 ?_); refine gM_ (some 17) Tryz.func42 #[.pointer (some ⟨g, 0, none⟩), .int .i64 36] ?_; (with_reducible refine (spec_l1Cur_pick.calls g s0_0 t230 t231 36 t233 t234 t235 w0 _ ?side1 ?side2 A7.out).mono ?_); (case side1 => exact iU_ HI0); (case side2 => exact bU_ HB); rintro e w59 ⟨rfl, hi, hb, hk⟩; refine ⟨_, rfl, ?_⟩; replace HO226 := M_ (ik_ HI0 HO226 hk); replace HK := M_ (pT_ HK hk); replace HB := M_ (hb); replace HI0 := M_ (hi); clear hb hk hi))
        ·go_loopg [3] k (fun kq v3 w' => ∃ (x3_1 : List (S31)), Aside0 (spec_l1Cur_anyScore.l0 kq x3_1 s0_0 t234 t235 = some (r1, r2, r3)) ∧ Aside0 (kq ≤ k) ∧ Aside0 (Kd.R k31 31 w' w.heap.size (fun _ => True) v3 x3_1) ∧ Aside0 (IsS58 w0 w' g s0_0 t234 t235) ∧ Aside0 (KeepBut w w' g none) ∧ Aside0 (Below w0.heap.size w0 w'))
         case atStart => exact ⟨(([] : List (S31))), H', ⟨Nat.le_refl _⟩, ⟨by first | exact Kd.R_nil _ _ _ _ _ | exact Kd.N_nil _ _ _ _ _ | exact Kd.V_nil _ _ _ _ _ | exact Kd.Q_nil _ _ _ _ _ | exact Kd.S_nil _ _ _ _ _⟩, ⟨iU_ HI0⟩, ⟨pU_ HK⟩, ⟨bU_ HB⟩⟩
         case round =>
          clear H';(try clear qi2);(try clear qi25);obtain ⟨x3_1, HA, HK1, HO_3, HI0, HK, HB⟩ := hrel
          cases gk with
          | zero => exact absurd HA.out (by simp [spec_l1Cur_anyScore.l0])
          | succ k1 =>
           have H := HA.out;clear HA;simp only [spec_l1Cur_anyScore.l0] at H
           by_cases c60 : (x3_1.length : Int) < 31
           ·rw [if_pos c60] at H
            have c60b0 : decide ((x3_1.length : Int) < 31) = true := decide_eq_true c60
            have c60b1 : decide (x3_1.length < 31) = true := decide_eq_true (by omega)
            clear c60
            by_cases c61 : x3_1.length < 5864062014805
            ·rw [if_pos c61] at H
             have LMc61 := M_ c61;clear c61;obtain ⟨y261, hy261⟩ : ∃ y_ : List (S31), y_ = (x3_1 ++ [(⟨60, wrap64 (2 * (x3_1.length : Int)), 1⟩ : S31)]) := ⟨_, rfl⟩
             replace H : (spec_l1Cur_anyScore.l0 k1 y261 s0_0 t234 t235) = some (r1, r2, r3) := by first | (rw [hy261]; with_reducible exact H) | (have H2_ := (Option.bind_some _ _).symm.trans H; rw [hy261]; with_reducible exact H2_) | (have H2_ := (Option.bind_some _ _).symm.trans H; with_reducible exact H2_) | with_reducible exact H | (rw [hy261]; exact H) | exact H
             have Ny261 := M_ hy261;clear hy261
             have H' := M_ H
             clear H;obtain ⟨Ao62, co62, eo62⟩ := Kd.R_slice HO_3.out;subst eo62
             go_wp2_with (first | ((with_reducible refine gate_builtin (b := .append) (xs := #[.tmp 55, .tmp 60]) rfl ?_); at_builtin; refine Kd.R_append k31 w.heap.size rfl (.tmp 55) (.tmp 60) 24 31 (.agg #[(.int .i64 0), (.int .i64 0), (.int .i64 0)]) 24 rfl Tryz.underlying24 info31 rfl (by decide) (by omega) (.slice Ao62 x3_1.length co62) x3_1 (⟨60, wrap64 (2 * (x3_1.length : Int)), 1⟩ : S31) [.int .i64 60, .int .i64 (wrap64 (2 * (x3_1.length : Int))), .int .i64 1] (fun _ => True) (fun _ => False) rfl rfl ?aP (fun _ hk => hk.elim) ?aF ?aO (Below.refl _ _) ?aS ?aL ?_; (case aP => exact k31_mkM _ _ _ (⟨60, wrap64 (2 * (x3_1.length : Int)), 1⟩ : S31)); (case aF => exact (fun _ _ => trivial)); (case aO => exact (rU_ HO_3.out)); (case aS => exact (pS_ (w := w) (g := g) HK)); (case aL => have := LMc61.out; omega); intro v262 w63 ho hb hg hat; rw [← Ny261.out] at ho; replace HI0 := M_ (IsS58.grown (iU_ HI0) hg (IsS58.own_ne HI0.out HO_3.out (by decide))); replace HB := M_ (below_weaken (bU_ HB) HL.out hb); replace HK := M_ (KeepBut.trans (pU_ HK) (KeepBut.of_grown hg g) (Kd.R_base2 HO_3.out)); have HO263 := M_ (ho); clear HO_3; clear ho hb hg hat))
             go_roundg k1
             case measure => have := HK1.out; omega
             case rel => exact ⟨(y261), H', ⟨by have := HK1.out; omega⟩, ⟨rU_ HO263.out⟩, ⟨iU_ HI0⟩, ⟨pU_ HK⟩, ⟨bU_ HB⟩⟩
            ·rw [if_neg c61] at H
             exact absurd H (by simp)
           ·rw [if_neg c60] at H
            have c60b0 : decide ((x3_1.length : Int) < 31) = false := decide_eq_false c60
            have c60b1 : decide (x3_1.length < 31) = false := decide_eq_false (by omega)
            clear c60;simp only [Option.some.injEq, Prod.mk.injEq] at H;obtain ⟨rfl, rfl, rfl⟩ := H;obtain ⟨Ao64, co64, eo64⟩ := Kd.R_slice HO_3.out;subst eo64
            go_wp2
            go_ret
            exact ⟨_, eR_, rU_ HO_3.out, by (try simp only [show IntKind.u64.wrap 0 = 0 from rfl, Int.add_zero]); exact iU_ HI0, bU_ HB, pU_ HK⟩
        ·go_ret
         exact ⟨_, eR_, rU_ HO226.out, by (try simp only [show IntKind.u64.wrap 0 = 0 from rfl, Int.add_zero]); exact iU_ HI0, bU_ HB, pU_ HK⟩
   ·rw [if_neg c6] at H
    exact absurd H (by simp)
  ·rw [if_neg c5] at H
   exact absurd H (by simp)
 ·rw [if_neg c3] at H
  have c3b0 : decide (0 < (t224.length : Int)) = false := decide_eq_false c3
  have c3b1 : decide (0 < t224.length) = false := decide_eq_false (by omega)
  clear c3;simp only [Option.some.injEq, Prod.mk.injEq] at H;obtain ⟨rfl, rfl, rfl⟩ := H
  go_enter Tryz.func41, Tryz.ntmps41
  go_wp2_with (first | ((with_reducible refine gc_ 59 ?_); refine gM_ (some 6) Tryz.func59 #[.pointer (some ⟨g, 0, none⟩)] ?_; (with_reducible refine (spec_l1Cur_score.calls k g s0_0 s0_1 s0_2 t224 t227 t228 w0 _ ?side1 ?side2 A2.out).mono ?_); (case side1 => exact iU_ HI0); (case side2 => exact bU_ HB); rintro e w69 ⟨v225, rfl, ho0, hi, hb, hk⟩; refine ⟨_, rfl, ?_⟩; have HO226 := M_ (Kd.R_lower ho0 (pS_ (w := w) (g := g) HK)); replace HK := M_ (pT_ HK hk); replace HB := M_ (hb); replace HI0 := M_ (hi); clear hb hk hi ho0; obtain ⟨Ao70, co70, eo70⟩ := Kd.R_slice HO226.out; subst eo70))
  go_ret
  exact ⟨_, eR_, rU_ HO226.out, by (try simp only [show IntKind.u64.wrap 0 = 0 from rfl, Int.add_zero]); exact iU_ HI0, bU_ HB, pU_ HK⟩
mutual
def spec_DrawSortNotes.l0 : Nat → List (S31) → Int → List Int → Int → Int → Option ((List (S31)))
 | 0, _, _, _, _, _ => none
 | k + 1, x4, x5, x268000, x268001, x268002 => if x5 > 0 then (spec_DrawSortNotes.j1 k x4 x5 (decide ((x4.length : Int) > 1)) x268000 x268001 x268002) else (spec_DrawSortNotes.j1 k x4 x5 false x268000 x268001 x268002)
def spec_DrawSortNotes.j1 : Nat → List (S31) → Int → Bool → List Int → Int → Int → Option ((List (S31)))
 | 0, _, _, _, _, _, _ => none
 | k + 1, x4, x5, x22, x268000, x268001, x268002 => if x22 = true then ((spec_l1Cur_pick.f x268000 x268001 x268002 (x4.length : Int)).bind fun bt276 => ((spec_l1Cur_pick.f x268000 bt276.2.1 bt276.2.2 (x4.length : Int)).bind fun bt279 => (if 0 ≤ bt276.1 then (if bt276.1 < (x4.length : Int) then (if 0 ≤ bt279.1 then (if bt279.1 < (x4.length : Int) then (spec_DrawSortNotes.l0 k ((x4.set (bt276.1 : Int).toNat (⟨(rd_T31 x4 bt279.1).f0, (rd_T31 x4 bt279.1).f1, (rd_T31 x4 bt279.1).f2⟩ : S31)).set (bt279.1 : Int).toNat (⟨(rd_T31 x4 bt276.1).f0, (rd_T31 x4 bt276.1).f1, (rd_T31 x4 bt276.1).f2⟩ : S31)) (wrap64 (x5 - 1)) x268000 bt279.2.1 bt279.2.2) else (none)) else (none)) else (none)) else (none)))) else (some x4)
end
def spec_DrawSortNotes.f (k : Nat) (l0 : List Int) : Option ((List (S31))) := (newCur.f l0).bind fun bt264 => ((spec_l1Cur_anyScore.f k bt264.1 bt264.2.1 bt264.2.2).bind fun bt268 => ((spec_l1Cur_pick.f bt264.1 bt268.2.1 bt268.2.2 6).bind fun bt273 => (spec_DrawSortNotes.l0 k bt268.1 bt273.1 bt264.1 bt273.2.1 bt273.2.2)))
theorem spec_DrawSortNotes.mono_l : ∀ k, (∀ y0 y1 y2 y3 y4, LeO (spec_DrawSortNotes.l0 k y0 y1 y2 y3 y4) (spec_DrawSortNotes.l0 (k + 1) y0 y1 y2 y3 y4)) ∧ (∀ y0 y1 y2 y3 y4 y5, LeO (spec_DrawSortNotes.j1 k y0 y1 y2 y3 y4 y5) (spec_DrawSortNotes.j1 (k + 1) y0 y1 y2 y3 y4 y5))
 | 0 => ⟨fun _ _ _ _ _ r h => by simp [spec_DrawSortNotes.l0] at h, fun _ _ _ _ _ _ r h => by simp [spec_DrawSortNotes.j1] at h⟩
 | k + 1 => by
  obtain ⟨ih0, ih1⟩ := spec_DrawSortNotes.mono_l k;refine ⟨?_, ?_⟩
  ·intro y0 y1 y2 y3 y4
   unfold spec_DrawSortNotes.l0
   have m0_ := @spec_l1Cur_anyScore.mono;exact mo_
  ·intro y0 y1 y2 y3 y4 y5
   unfold spec_DrawSortNotes.j1
   have m0_ := @spec_l1Cur_anyScore.mono;exact mo_
theorem spec_DrawSortNotes.mono : ∀ a0 k, LeO (spec_DrawSortNotes.f k a0) (spec_DrawSortNotes.f (k + 1) a0) := by
 intro a0 k;obtain ⟨ih0, ih1⟩ := spec_DrawSortNotes.mono_l k
 unfold spec_DrawSortNotes.f
 have m0_ := @spec_l1Cur_anyScore.mono;exact mo_
set_option maxHeartbeats 8000000 in
set_option maxRecDepth 100000 in
theorem spec_DrawSortNotes.calls (k : Nat) (A0 : Option Addr) (c0 : Nat) (l0 : List Int) (r : List (S31)) (w : World) (hr0 : Kd.C (Kd.int .u8) w A0 l0.length l0) (hc0 : l0.length ≤ c0) (h : spec_DrawSortNotes.f k l0 = some r) :
  Calls Tryz.prog 6 #[.slice A0 l0.length c0] w fun e w' => ∃ v0_ : Value, e = .returned (v0_) ∧ Kd.R k31 31 w' w.heap.size (fun _ => True) v0_ r ∧ Below w.heap.size w w' := by
 have hu31 := Tryz.underlying31;have HR0 := M_ hr0;have HC0 := M_ hc0;clear hr0 hc0;have HB := M_ (Below.refl w.heap.size w)
 have H : ((newCur.f l0).bind fun bt264 => ((spec_l1Cur_anyScore.f k bt264.1 bt264.2.1 bt264.2.2).bind fun bt268 => ((spec_l1Cur_pick.f bt264.1 bt268.2.1 bt268.2.2 6).bind fun bt273 => (spec_DrawSortNotes.l0 k bt268.1 bt273.1 bt264.1 bt273.2.1 bt273.2.2)))) = some r := h
 clear h;replace H := Option.bind_eq_some_iff.mp H;obtain ⟨⟨t264, t265, t266⟩, A20, H⟩ := H;(try dsimp only at H);have A2 := M_ A20;clear A20;replace H := Option.bind_eq_some_iff.mp H;obtain ⟨⟨t268, t271, t272⟩, A30, H⟩ := H;(try dsimp only at H);have A3 := M_ A30;clear A30;replace H := Option.bind_eq_some_iff.mp H;obtain ⟨⟨t273, t274, t275⟩, A40, H⟩ := H;(try dsimp only at H);have A4 := M_ A40;clear A40
 have H' := M_ H
 clear H
 go_enter Tryz.func6, Tryz.ntmps6
 go_wp2_with (first | ((with_reducible refine gate_dst (N := 11) rfl ?_); refine bx_ (N := 11) (cs := #[.slice A0 l0.length c0, .int .i64 0, .int .u64 0]) (t := 58) ?_; intro g267 hg w5 hbox hb2; have hb := bS_ HB hb2; have hi := newCur_is A2.out (by exact HR0.out) hbox (by rw [hg]; exact (bZ_ HB)); clear hg hbox; replace HB := M_ (hb); have HI267 := M_ (hi); (try clear hb); (try clear hb2); (try clear hk); (try clear hi)) | ((with_reducible refine gc_ 41 ?_); refine gM_ (some 13) Tryz.func41 #[.pointer (some ⟨g267, 0, none⟩)] ?_; (with_reducible refine (spec_l1Cur_anyScore.calls k g267 t264 t265 t266 t268 t271 t272 w _ ?side1 ?side2 A3.out).mono ?_); (case side1 => exact iU_ HI267); (case side2 => exact bU_ HB); rintro e w6 ⟨v269, rfl, ho0, hi, hb, hk⟩; refine ⟨_, rfl, ?_⟩; have HO270 := M_ (Kd.R_lower ho0 (bZ_ HB)); replace HB := M_ (hb); replace HI267 := M_ (hi); clear hb hk hi ho0) | ((with_reducible refine gc_ 42 ?_); refine gM_ (some 15) Tryz.func42 #[.pointer (some ⟨g267, 0, none⟩), .int .i64 6] ?_; (with_reducible refine (spec_l1Cur_pick.calls g267 t264 t271 t272 6 t273 t274 t275 w _ ?side1 ?side2 A4.out).mono ?_); (case side1 => exact iU_ HI267); (case side2 => exact bU_ HB); rintro e w7 ⟨rfl, hi, hb, hk⟩; refine ⟨_, rfl, ?_⟩; replace HO270 := M_ (ik_ HI267 HO270 hk); replace HB := M_ (hb); replace HI267 := M_ (hi); clear hb hk hi))
 go_loopg [5] k (fun kq v5 w' => ∃ (x4_1 : List (S31)) (x5_1 : Int) (x268001_1 : Int) (x268002_1 : Int), v5 = .int .i64 x5_1 ∧ Aside0 (spec_DrawSortNotes.l0 kq x4_1 x5_1 t264 x268001_1 x268002_1 = some r) ∧ Aside0 (kq ≤ k) ∧ Aside0 (Kd.R k31 31 w' w.heap.size (fun _ => True) v269 x4_1) ∧ Aside0 (IsS58 w w' g267 t264 x268001_1 x268002_1) ∧ Aside0 (Below w.heap.size w w'))
 case atStart => exact ⟨(t268), (t273), (t274), (t275), eD_, H', ⟨Nat.le_refl _⟩, ⟨rU_ HO270.out⟩, ⟨iU_ HI267⟩, ⟨bU_ HB⟩⟩
 case round =>
  clear H';obtain ⟨x4_1, x5_1, x268001_1, x268002_1, rfl, HA, HK1, HO_4, HI267, HB⟩ := hrel
  cases gk with
  | zero => exact absurd HA.out (by simp [spec_DrawSortNotes.l0])
  | succ k1 =>
   have H := HA.out;clear HA;simp only [spec_DrawSortNotes.l0] at H;have HC8 := M_ H;clear H
   go_upto_region 4 with (fail)
   go_cut [22] (fun v22 wc => ∃ (kq : Nat) (x22_7 : Bool), v22 = .bool x22_7 ∧ Aside0 (spec_DrawSortNotes.j1 kq x4_1 x5_1 x22_7 t264 x268001_1 x268002_1 = some r) ∧ Aside0 (kq ≤ k1) ∧ Aside0 (Kd.R k31 31 wc w.heap.size (fun _ => True) v269 x4_1) ∧ Aside0 (IsS58 w wc g267 t264 x268001_1 x268002_1) ∧ Aside0 (Below w.heap.size w wc))
   case first =>
    have H := HC8.out;clear HC8
    by_cases c9 : x5_1 > 0
    ·rw [if_pos c9] at H
     have c9b0 : decide (0 < x5_1) = true := decide_eq_true c9
     clear c9
     (first | rw [c9b0] | (simp only [i64_w, i32_w]; rw [c9b0]) | skip)
     have H' := M_ H
     clear H;obtain ⟨Ao10, co10, eo10⟩ := Kd.R_slice HO_4.out;subst eo10
     go_wp2
     go_meet
     case rel => exact ⟨_, (decide ((x4_1.length : Int) > 1)), eD_, H', ⟨by have := HK1.out; first | omega | exact Nat.le_refl _⟩, ⟨rU_ HO_4.out⟩, ⟨iU_ HI267⟩, ⟨bU_ HB⟩⟩
    ·rw [if_neg c9] at H
     have c9b0 : decide (0 < x5_1) = false := decide_eq_false c9
     clear c9
     (first | rw [c9b0] | (simp only [i64_w, i32_w]; rw [c9b0]) | skip)
     have H' := M_ H
     clear H
     go_wp2
     go_meet
     case rel => exact ⟨_, (false), eD_, H', ⟨by have := HK1.out; first | omega | exact Nat.le_refl _⟩, ⟨rU_ HO_4.out⟩, ⟨iU_ HI267⟩, ⟨bU_ HB⟩⟩
   case rest =>
    clear HC8;obtain ⟨kq, x22_7, rfl, HA, HJ7, HO_4, HI267, HB⟩ := hcut
    cases kq with
    | zero => exact absurd HA.out (by simp [spec_DrawSortNotes.j1])
    | succ kj7 =>
     have H := HA.out;clear HA;simp only [spec_DrawSortNotes.j1] at H
     by_cases c11 : x22_7 = true
     ·subst c11
      rw [if_pos rfl] at H
      replace H := Option.bind_eq_some_iff.mp H;obtain ⟨⟨t276, t277, t278⟩, A120, H⟩ := H;(try dsimp only at H);have A12 := M_ A120;clear A120;replace H := Option.bind_eq_some_iff.mp H;obtain ⟨⟨t279, t280, t281⟩, A130, H⟩ := H;(try dsimp only at H);have A13 := M_ A130;clear A130
      by_cases c14 : 0 ≤ t276
      ·rw [if_pos c14] at H
       have c14b0 : decide (0 ≤ t276) = true := decide_eq_true c14
       clear c14
       by_cases c15 : t276 < (x4_1.length : Int)
       ·rw [if_pos c15] at H
        have c15b0 : decide (t276 < (x4_1.length : Int)) = true := decide_eq_true c15
        clear c15
        by_cases c16 : 0 ≤ t279
        ·rw [if_pos c16] at H
         have c16b0 : decide (0 ≤ t279) = true := decide_eq_true c16
         clear c16
         by_cases c17 : t279 < (x4_1.length : Int)
         ·rw [if_pos c17] at H
          have c17b0 : decide (t279 < (x4_1.length : Int)) = true := decide_eq_true c17
          clear c17;obtain ⟨y285, hy285⟩ : ∃ y_ : List (S31), y_ = (x4_1.set (t276 : Int).toNat (⟨(rd_T31 x4_1 t279).f0, (rd_T31 x4_1 t279).f1, (rd_T31 x4_1 t279).f2⟩ : S31)) := ⟨_, rfl⟩
          replace H : (spec_DrawSortNotes.l0 kj7 (y285.set (t279 : Int).toNat (⟨(rd_T31 x4_1 t276).f0, (rd_T31 x4_1 t276).f1, (rd_T31 x4_1 t276).f2⟩ : S31)) (wrap64 (x5_1 - 1)) t264 t280 t281) = some r := by first | (rw [hy285]; with_reducible exact H) | (have H2_ := (Option.bind_some _ _).symm.trans H; rw [hy285]; with_reducible exact H2_) | (have H2_ := (Option.bind_some _ _).symm.trans H; with_reducible exact H2_) | with_reducible exact H | (rw [hy285]; exact H) | exact H
          have Ny285 := M_ hy285;clear hy285;obtain ⟨y286, hy286⟩ : ∃ y_ : List (S31), y_ = (y285.set (t279 : Int).toNat (⟨(rd_T31 x4_1 t276).f0, (rd_T31 x4_1 t276).f1, (rd_T31 x4_1 t276).f2⟩ : S31)) := ⟨_, rfl⟩
          replace H : (spec_DrawSortNotes.l0 kj7 y286 (wrap64 (x5_1 - 1)) t264 t280 t281) = some r := by first | (rw [hy286]; with_reducible exact H) | (have H2_ := (Option.bind_some _ _).symm.trans H; rw [hy286]; with_reducible exact H2_) | (have H2_ := (Option.bind_some _ _).symm.trans H; with_reducible exact H2_) | with_reducible exact H | (rw [hy286]; exact H) | exact H
          have Ny286 := M_ hy286;clear hy286
          have H' := M_ H
          clear H;obtain ⟨Ao20, co20, eo20⟩ := Kd.R_slice HO_4.out;subst eo20
          go_wp2_with (first | ((with_reducible refine gc_ 42 ?_); refine gM_ (some 28) Tryz.func42 #[.pointer (some ⟨g267, 0, none⟩), .int .i64 (x4_1.length : Int)] ?_; (with_reducible refine (spec_l1Cur_pick.calls g267 t264 x268001_1 x268002_1 (x4_1.length : Int) t276 t277 t278 w _ ?side1 ?side2 A12.out).mono ?_); (case side1 => exact iU_ HI267); (case side2 => exact bU_ HB); rintro e w21 ⟨rfl, hi, hb, hk⟩; refine ⟨_, rfl, ?_⟩; replace HO_4 := M_ (ik_ HI267 HO_4 hk); replace HB := M_ (hb); replace HI267 := M_ (hi); clear hb hk hi) | ((with_reducible refine gc_ 42 ?_); refine gM_ (some 32) Tryz.func42 #[.pointer (some ⟨g267, 0, none⟩), .int .i64 (x4_1.length : Int)] ?_; (with_reducible refine (spec_l1Cur_pick.calls g267 t264 t277 t278 (x4_1.length : Int) t279 t280 t281 w _ ?side1 ?side2 A13.out).mono ?_); (case side1 => exact iU_ HI267); (case side2 => exact bU_ HB); rintro e w22 ⟨rfl, hi, hb, hk⟩; refine ⟨_, rfl, ?_⟩; replace HO_4 := M_ (ik_ HI267 HO_4 hk); replace HB := M_ (hb); replace HI267 := M_ (hi); clear hb hk hi; have p282 : 0 ≤ (t276 : Int) := dT_; have q282 : t276 < (x4_1.length : Int) := dT_; obtain ⟨ad282, e282, hx282_0, hx282_1, hx282_2⟩ := at_T31 (Kd.R_reads' HO_4.out).2.2 t276 p282 q282; cases e282; replace p282 := eq_true p282; replace q282 := eq_true q282) | ((with_reducible refine gate_dst (N := 8) rfl ?_); (try (refine gate_guard (by rfl) ?_; dsimp only)); refine bx_ (N := 8) (cs := #[.int .i64 0, .int .i64 0, .int .i64 0]) (t := 31) ?_; intro gb283 hg w23 hbox hb; replace HO_4 := M_ (rb_ (Kd.R_elderB (rU_ HO_4.out) gb283 (Nat.le_of_eq hg.symm)) hb); have BK283 := M_ (hbox); have GW283 := M_ (gw_ HB hg); have GE283 := M_ (gw_ HB hg); replace HB := M_ (bS_ HB hb); have NB267_283 := M_ ((by rw [hg]; exact Nat.ne_of_lt (IsS58.lt (show IsS58 w _ g267 t264 t280 t281 from iU_ HI267)) : g267 ≠ gb283)); have NB283_267 := M_ ((by rw [hg]; exact Nat.ne_of_gt (IsS58.lt (show IsS58 w _ g267 t264 t280 t281 from iU_ HI267)) : gb283 ≠ g267)); replace HI267 := M_ (IsS58.below (iU_ HI267) hb); clear hb hbox hg; have hnb24 := NB283_267.out; have hnc24 := NB267_283.out; obtain ⟨hcz25_0, hcz25_1, hcz25_2, hfz25_0, hfz25_1, hfz25_2⟩ := bq3_ BK283) | ((with_reducible refine gate_store (t := 31) (p := 8) rfl ?_); refine store_event (t := 31) (p := 8) (v := ?vo_w26) (w1 := (((w23.setCell ⟨gb283, 0, none⟩ (.int .i64 ((rd_T31 x4_1 t276).f0))).setCell ⟨gb283, 1, none⟩ (.int .i64 ((rd_T31 x4_1 t276).f1))).setCell ⟨gb283, 2, none⟩ (.int .i64 ((rd_T31 x4_1 t276).f2)))) ?hg ?ho ?hn ?hr ?_; (case ho => rfl); (case hg => rfl); (case hn => rfl); (case hr => first | (go_simp; done) | (go_simp; rfl)); intro w26 hw; have n0_ : Aside0 (Kd.R k31 31 w26 w.heap.size (fun k_ => k_ ≠ gb283) (.slice (some ad282) x4_1.length co20) x4_1) := ⟨(by rw [hw]; exact (rU_ (rm_ (Kd.R_far (p := ⟨gb283, 2, none⟩) (Kd.R_far (p := ⟨gb283, 1, none⟩) (Kd.R_far (p := ⟨gb283, 0, none⟩) (rm_ HO_4.out (fun k_ hk => (⟨hk, hk.2⟩ : _ ∧ k_ ≠ gb283))) (fun _ hk => hk.2) (.int .i64 ((rd_T31 x4_1 t276).f0))) (fun _ hk => hk.2) (.int .i64 ((rd_T31 x4_1 t276).f1))) (fun _ hk => hk.2) (.int .i64 ((rd_T31 x4_1 t276).f2))) (fun _ hk => hk.1.2))))⟩; have n1_ : Aside0 (w26.heap[gb283]? = some (.cells #[.int .i64 ((rd_T31 x4_1 t276).f0), .int .i64 ((rd_T31 x4_1 t276).f1), .int .i64 ((rd_T31 x4_1 t276).f2)] 31 (0, 0))) := ⟨(by rw [hw]; exact (by (with_reducible repeat (first | refine kn_ ?_ _ | refine kd_ ?_ | refine ka_ ?_ _)); refine blk_put (cs := #[.int .i64 ((rd_T31 x4_1 t276).f0), .int .i64 ((rd_T31 x4_1 t276).f1), .int .i64 0]) ?_ 2 _ rfl; (with_reducible repeat (first | refine kn_ ?_ _ | refine kd_ ?_ | refine ka_ ?_ _)); refine blk_put (cs := #[.int .i64 ((rd_T31 x4_1 t276).f0), .int .i64 0, .int .i64 0]) ?_ 1 _ rfl; (with_reducible repeat (first | refine kn_ ?_ _ | refine kd_ ?_ | refine ka_ ?_ _)); refine blk_put (cs := #[.int .i64 0, .int .i64 0, .int .i64 0]) ?_ 0 _ rfl; (with_reducible repeat (first | refine kn_ ?_ _ | refine kd_ ?_ | refine ka_ ?_ _)); exact BK283.out))⟩; have n2_ : Aside0 (IsS58 w w26 g267 t264 t280 t281) := ⟨(by rw [hw]; exact (iU_ HI267))⟩; have n3_ : Aside0 (Below w.heap.size w w26) := ⟨(by rw [hw]; exact (bU_ HB))⟩; clear hw; clear HO_4; clear BK283; clear HI267; clear HB; have HO_4 := n0_; have BK283 := n1_; have HI267 := n2_; have HB := n3_; clear n0_ n1_ n2_ n3_; have p284 : 0 ≤ (t279 : Int) := dT_; have q284 : t279 < (x4_1.length : Int) := dT_; obtain ⟨ad284, e284, hx284_0, hx284_1, hx284_2⟩ := at_T31 (Kd.R_reads' HO_4.out).2.2 t279 p284 q284; obtain rfl : ad282 = ad284 := (by injection e284); replace p284 := eq_true p284; replace q284 := eq_true q284; have p18 : 0 ≤ (t276 : Int) := dT_; have q18 : (t276 : Int) < ((x4_1.length : Int) : Int) := dT_; obtain ⟨go18, co18, eo18, gb18, gl18, cl18, HG18⟩ := Kd.R_form HO_4.out (by omega); (first | cases eo18 | (injection eo18 with ea_ en_ ec_; (first | subst ea_ | (injection ea_ with ea_; subst ea_)); subst ec_; clear en_)); have GB18 := M_ gb18; have GG18 := M_ HG18; clear gb18 gl18 HG18; (first | simp only [add_plain] at hx282_0 | skip); (first | simp only [add_plain] at hx282_1 | skip); (first | simp only [add_plain] at hx282_2 | skip); (first | simp only [add_plain] at hx284_0 | skip); (first | simp only [add_plain] at hx284_1 | skip); (first | simp only [add_plain] at hx284_2 | skip); obtain ⟨ce18, hcl18, hM18, hcc18, hfr18⟩ := Kd.R_elem HO_4.out z31 (t276 : Int) p18 q18; obtain rfl := k31_openM hM18; have hx18_0 : w26.cell? ⟨go18, (t276 : Int).toNat * 3, none⟩ = some (.int .i64 ((rd_T31 x4_1 t276).f0)) := hcc18 0 _ rfl; have hx18_1 : w26.cell? ⟨go18, (t276 : Int).toNat * 3 + 1, none⟩ = some (.int .i64 ((rd_T31 x4_1 t276).f1)) := hcc18 1 _ rfl; have hx18_2 : w26.cell? ⟨go18, (t276 : Int).toNat * 3 + 2, none⟩ = some (.int .i64 ((rd_T31 x4_1 t276).f2)) := hcc18 2 _ rfl; have hf18_0 : w26.frozen? ⟨go18, (t276 : Int).toNat * 3, none⟩ = false := hfr18 0; have hf18_1 : w26.frozen? ⟨go18, (t276 : Int).toNat * 3 + 1, none⟩ = false := hfr18 1; have hf18_2 : w26.frozen? ⟨go18, (t276 : Int).toNat * 3 + 2, none⟩ = false := hfr18 2; clear hcl18 hcc18 hfr18 hM18; replace p18 := eq_true p18; replace q18 := eq_true q18; have HX27 := M_ (show Kd.R k31 31 w26 w.heap.size (fun k_ => k_ ≠ gb283) (.slice (some ⟨go18, 0, none⟩) x4_1.length co20) x4_1 from (rU_ HO_4.out)); obtain ⟨ce27, hcl27, hM27, hcc27, hfr27⟩ := Kd.R_elem HX27.out z31 (t276 : Int) (dT_) (by have h_ : (t276 : Int) < ((x4_1.length : Int) : Int) := dT_; first | exact h_ | (have e_ := (Kd.R_reads' HO_4.out).1; omega) | simpa using h_); obtain rfl := k31_openM hM27; have HP27 := Kd.R_seg HX27.out (t276 : Int) (dT_) (by have h_ : (t276 : Int) < ((x4_1.length : Int) : Int) := dT_; first | exact h_ | (have e_ := (Kd.R_reads' HO_4.out).1; omega) | simpa using h_) (seg := [.int .i64 ((rd_T31 x4_1 t279).f0), .int .i64 ((rd_T31 x4_1 t279).f1), .int .i64 ((rd_T31 x4_1 t279).f2)]) (j := 0) hcl27 hcc27 (show 3 ≤ 3 from by decide) (x' := (⟨(rd_T31 x4_1 t279).f0, (rd_T31 x4_1 t279).f1, (rd_T31 x4_1 t279).f2⟩ : S31)) (k31_mkM _ _ _ (⟨(rd_T31 x4_1 t279).f0, (rd_T31 x4_1 t279).f1, (rd_T31 x4_1 t279).f2⟩ : S31) ) (fun _ hk => hk); have hx27_0 := hcc27 0 _ rfl; (try simp only [show (k31).sz = 3 from rfl, Nat.mul_one, Nat.add_zero] at hx27_0); have hf27_0 := hfr27 0; (try simp only [show (k31).sz = 3 from rfl, Nat.mul_one, Nat.add_zero] at hf27_0); have hx27_1 := hcc27 1 _ rfl; (try simp only [show (k31).sz = 3 from rfl, Nat.mul_one, Nat.add_zero] at hx27_1); have hf27_1 := hfr27 1; (try simp only [show (k31).sz = 3 from rfl, Nat.mul_one, Nat.add_zero] at hf27_1); have hx27_2 := hcc27 2 _ rfl; (try simp only [show (k31).sz = 3 from rfl, Nat.mul_one, Nat.add_zero] at hx27_2); have hf27_2 := hfr27 2; (try simp only [show (k31).sz = 3 from rfl, Nat.mul_one, Nat.add_zero] at hf27_2); clear hcl27 hcc27 hfr27 hM27) | ((with_reducible refine gate_store (t := 31) (p := 43) rfl ?_); refine store_event (t := 31) (p := 43) (v := ?vo_w28) (w1 := (((w26.setCell ⟨go18, (t276 : Int).toNat * 3, none⟩ (.int .i64 ((rd_T31 x4_1 t279).f0))).setCell ⟨go18, (t276 : Int).toNat * 3 + 1, none⟩ (.int .i64 ((rd_T31 x4_1 t279).f1))).setCell ⟨go18, (t276 : Int).toNat * 3 + 2, none⟩ (.int .i64 ((rd_T31 x4_1 t279).f2)))) ?hg ?ho ?hn ?hr ?_; (case ho => rfl); (case hg => rfl); (case hn => rfl); (case hr => first | (go_simp; done) | (go_simp; rfl)); intro w28 hw; have hg : w26.grownBy w28 (some go18) := (by rw [hw]; exact HP27.2); have hp_ : Kd.R k31 31 w28 w.heap.size (fun k_ => k_ ≠ gb283) (.slice (some ⟨go18, 0, none⟩) x4_1.length co20) y285 := (by rw [hw, Ny285.out]; exact HP27.1); clear HP27; replace HI267 := M_ (IsS58.grown (iU_ HI267) hg (IsS58.own_ne HI267.out HO_4.out (by decide))); replace BK283 := M_ (kg_ BK283 hg (Kd.R_away HO_4.out (fun _ hk => hk))); replace HO_4 := M_ (hp_); replace HB := M_ ((by rw [hw]; exact bs_ (bs_ (bs_ (HB.out) GB18.out) GB18.out) GB18.out : Below w.heap.size w w28)); clear hg hw hp_; obtain ⟨hcz29_0, hcz29_1, hcz29_2, hfz29_0, hfz29_1, hfz29_2⟩ := bq3_ BK283; have p19 : 0 ≤ (t279 : Int) := dT_; have q19 : (t279 : Int) < ((x4_1.length : Int) : Int) := dT_; obtain ⟨ce19, hcl19, hM19, hcc19, hfr19⟩ := Kd.R_elem HO_4.out z31 (t279 : Int) p19 q19; obtain rfl := k31_openM hM19; have hx19_0 : w28.cell? ⟨go18, (t279 : Int).toNat * 3, none⟩ = some (.int .i64 ((rd_T31 y285 t279).f0)) := hcc19 0 _ rfl; have hx19_1 : w28.cell? ⟨go18, (t279 : Int).toNat * 3 + 1, none⟩ = some (.int .i64 ((rd_T31 y285 t279).f1)) := hcc19 1 _ rfl; have hx19_2 : w28.cell? ⟨go18, (t279 : Int).toNat * 3 + 2, none⟩ = some (.int .i64 ((rd_T31 y285 t279).f2)) := hcc19 2 _ rfl; have hf19_0 : w28.frozen? ⟨go18, (t279 : Int).toNat * 3, none⟩ = false := hfr19 0; have hf19_1 : w28.frozen? ⟨go18, (t279 : Int).toNat * 3 + 1, none⟩ = false := hfr19 1; have hf19_2 : w28.frozen? ⟨go18, (t279 : Int).toNat * 3 + 2, none⟩ = false := hfr19 2; clear hcl19 hcc19 hfr19 hM19; replace p19 := eq_true p19; replace q19 := eq_true q19; have HX30 := M_ (show Kd.R k31 31 w28 w.heap.size (fun k_ => k_ ≠ gb283) (.slice (some ⟨go18, 0, none⟩) x4_1.length co20) y285 from (rU_ HO_4.out)); obtain ⟨ce30, hcl30, hM30, hcc30, hfr30⟩ := Kd.R_elem HX30.out z31 (t279 : Int) (dT_) (by have h_ : (t279 : Int) < ((x4_1.length : Int) : Int) := dT_; first | exact h_ | (have e_ := (Kd.R_reads' HO_4.out).1; omega) | simpa using h_); obtain rfl := k31_openM hM30; have HP30 := Kd.R_seg HX30.out (t279 : Int) (dT_) (by have h_ : (t279 : Int) < ((x4_1.length : Int) : Int) := dT_; first | exact h_ | (have e_ := (Kd.R_reads' HO_4.out).1; omega) | simpa using h_) (seg := [.int .i64 ((rd_T31 x4_1 t276).f0), .int .i64 ((rd_T31 x4_1 t276).f1), .int .i64 ((rd_T31 x4_1 t276).f2)]) (j := 0) hcl30 hcc30 (show 3 ≤ 3 from by decide) (x' := (⟨(rd_T31 x4_1 t276).f0, (rd_T31 x4_1 t276).f1, (rd_T31 x4_1 t276).f2⟩ : S31)) (k31_mkM _ _ _ (⟨(rd_T31 x4_1 t276).f0, (rd_T31 x4_1 t276).f1, (rd_T31 x4_1 t276).f2⟩ : S31) ) (fun _ hk => hk); have hx30_0 := hcc30 0 _ rfl; (try simp only [show (k31).sz = 3 from rfl, Nat.mul_one, Nat.add_zero] at hx30_0); have hf30_0 := hfr30 0; (try simp only [show (k31).sz = 3 from rfl, Nat.mul_one, Nat.add_zero] at hf30_0); have hx30_1 := hcc30 1 _ rfl; (try simp only [show (k31).sz = 3 from rfl, Nat.mul_one, Nat.add_zero] at hx30_1); have hf30_1 := hfr30 1; (try simp only [show (k31).sz = 3 from rfl, Nat.mul_one, Nat.add_zero] at hf30_1); have hx30_2 := hcc30 2 _ rfl; (try simp only [show (k31).sz = 3 from rfl, Nat.mul_one, Nat.add_zero] at hx30_2); have hf30_2 := hfr30 2; (try simp only [show (k31).sz = 3 from rfl, Nat.mul_one, Nat.add_zero] at hf30_2); clear hcl30 hcc30 hfr30 hM30) | ((with_reducible refine gate_store (t := 31) (p := 47) rfl ?_); refine store_event (t := 31) (p := 47) (v := ?vo_w31) (w1 := (((w28.setCell ⟨go18, (t279 : Int).toNat * 3, none⟩ (.int .i64 ((rd_T31 x4_1 t276).f0))).setCell ⟨go18, (t279 : Int).toNat * 3 + 1, none⟩ (.int .i64 ((rd_T31 x4_1 t276).f1))).setCell ⟨go18, (t279 : Int).toNat * 3 + 2, none⟩ (.int .i64 ((rd_T31 x4_1 t276).f2)))) ?hg ?ho ?hn ?hr ?_; (case ho => rfl); (case hg => rfl); (case hn => rfl); (case hr => first | (go_simp; done) | (go_simp; rfl)); intro w31 hw; have hg : w28.grownBy w31 (some go18) := (by rw [hw]; exact HP30.2); have hp_ : Kd.R k31 31 w31 w.heap.size (fun k_ => k_ ≠ gb283) (.slice (some ⟨go18, 0, none⟩) x4_1.length co20) y286 := (by rw [hw, Ny286.out]; exact HP30.1); clear HP30; replace HI267 := M_ (IsS58.grown (iU_ HI267) hg (IsS58.own_ne HI267.out HO_4.out (by decide))); replace BK283 := M_ (kg_ BK283 hg (Kd.R_away HO_4.out (fun _ hk => hk))); replace HO_4 := M_ (hp_); replace HB := M_ ((by rw [hw]; exact bs_ (bs_ (bs_ (HB.out) GB18.out) GB18.out) GB18.out : Below w.heap.size w w31)); clear hg hw hp_))
          go_roundg kj7
          case measure => have := HK1.out; have := HJ7.out; omega
          case rel => exact ⟨(y286), (wrap64 (x5_1 - 1)), (t280), (t281), eD_, H', ⟨by have := HK1.out; have := HJ7.out; omega⟩, ⟨by (with_reducible repeat (first | apply ra_ | apply rn_ | apply rd_)); exact rm_ HO_4.out (fun _ hk => trivial)⟩, ⟨iU_ HI267⟩, ⟨bU_ HB⟩⟩
         ·rw [if_neg c17] at H
          exact absurd H (by simp)
        ·rw [if_neg c16] at H
         exact absurd H (by simp)
       ·rw [if_neg c15] at H
        exact absurd H (by simp)
      ·rw [if_neg c14] at H
       exact absurd H (by simp)
     ·replace c11 := Bool.eq_false_iff.mpr c11
      subst c11
      rw [if_neg (show ¬ (false = true) by decide)] at H
      obtain rfl := Option.some.inj H
      go_wp2
      go_ret
      exact ⟨_, eR_, rU_ HO_4.out, bU_ HB⟩
def impl_IsNote.f (a0_0 : Int) (a0_1 : Int) (a0_2 : Int) : Option (Bool) := if a0_0 ≥ 24 then (if a0_0 ≤ 96 then (if a0_1 ≥ 0 then (if a0_1 ≤ 999 then (if a0_2 ≥ 1 then (some (decide (a0_2 ≤ 99))) else (some false)) else (some false)) else (some false)) else (some false)) else (some false)
set_option maxHeartbeats 8000000 in
set_option maxRecDepth 100000 in
theorem impl_IsNote.calls (a0_0 : Int) (a0_1 : Int) (a0_2 : Int) (r : Bool) (w : World) (h : impl_IsNote.f a0_0 a0_1 a0_2 = some r) :
  Calls Tryz.prog 11 #[.agg #[.int .i64 a0_0, .int .i64 a0_1, .int .i64 a0_2]] w fun e w' => e = .returned (.bool r) ∧ Below w.heap.size w w' := by
 have hu31 := Tryz.underlying31;have HB := M_ (Below.refl w.heap.size w)
 have H : (if a0_0 ≥ 24 then (if a0_0 ≤ 96 then (if a0_1 ≥ 0 then (if a0_1 ≤ 999 then (if a0_2 ≥ 1 then (some (decide (a0_2 ≤ 99))) else (some false)) else (some false)) else (some false)) else (some false)) else (some false)) = some r := h
 clear h
 by_cases c2 : a0_0 ≥ 24
 ·rw [if_pos c2] at H
  have c2b0 : decide (24 ≤ a0_0) = true := decide_eq_true c2
  clear c2
  by_cases c3 : a0_0 ≤ 96
  ·rw [if_pos c3] at H
   have c3b0 : decide (a0_0 ≤ 96) = true := decide_eq_true c3
   clear c3
   by_cases c4 : a0_1 ≥ 0
   ·rw [if_pos c4] at H
    have c4b0 : decide (0 ≤ a0_1) = true := decide_eq_true c4
    clear c4
    by_cases c5 : a0_1 ≤ 999
    ·rw [if_pos c5] at H
     have c5b0 : decide (a0_1 ≤ 999) = true := decide_eq_true c5
     clear c5
     by_cases c6 : a0_2 ≥ 1
     focus
      rw [if_pos c6] at H
      have c6b0 : decide (1 ≤ a0_2) = true := decide_eq_true c6
     rotate_left
     focus
      rw [if_neg c6] at H
      have c6b0 : decide (1 ≤ a0_2) = false := decide_eq_false c6
     rotate_left
     all_goals
      clear c6;obtain rfl := Option.some.inj H
      go_enter Tryz.func11, Tryz.ntmps11
      go_wp2_with (first | ((with_reducible refine gate_dst (N := 1) rfl ?_); refine bx_ (N := 1) (cs := #[.int .i64 a0_0, .int .i64 a0_1, .int .i64 a0_2]) (t := 31) ?_; intro gb287 hg w7 hbox hb; have BK287 := M_ (hbox); have GW287 := M_ (gw_ HB hg); have GE287 := M_ (gw_ HB hg); replace HB := M_ (bS_ HB hb); clear hb hbox hg; obtain ⟨hcz8_0, hcz8_1, hcz8_2, hfz8_0, hfz8_1, hfz8_2⟩ := bq3_ BK287))
      go_ret
      exact ⟨eR_, bU_ HB⟩
    ·rw [if_neg c5] at H
     have c5b0 : decide (a0_1 ≤ 999) = false := decide_eq_false c5
     clear c5;obtain rfl := Option.some.inj H
     go_enter Tryz.func11, Tryz.ntmps11
     go_wp2_with (first | ((with_reducible refine gate_dst (N := 1) rfl ?_); refine bx_ (N := 1) (cs := #[.int .i64 a0_0, .int .i64 a0_1, .int .i64 a0_2]) (t := 31) ?_; intro gb287 hg w11 hbox hb; have BK287 := M_ (hbox); have GW287 := M_ (gw_ HB hg); have GE287 := M_ (gw_ HB hg); replace HB := M_ (bS_ HB hb); clear hb hbox hg; obtain ⟨hcz12_0, hcz12_1, hcz12_2, hfz12_0, hfz12_1, hfz12_2⟩ := bq3_ BK287))
     go_ret
     exact ⟨eR_, bU_ HB⟩
   ·rw [if_neg c4] at H
    have c4b0 : decide (0 ≤ a0_1) = false := decide_eq_false c4
    clear c4;obtain rfl := Option.some.inj H
    go_enter Tryz.func11, Tryz.ntmps11
    go_wp2_with (first | ((with_reducible refine gate_dst (N := 1) rfl ?_); refine bx_ (N := 1) (cs := #[.int .i64 a0_0, .int .i64 a0_1, .int .i64 a0_2]) (t := 31) ?_; intro gb287 hg w13 hbox hb; have BK287 := M_ (hbox); have GW287 := M_ (gw_ HB hg); have GE287 := M_ (gw_ HB hg); replace HB := M_ (bS_ HB hb); clear hb hbox hg; obtain ⟨hcz14_0, hcz14_1, hcz14_2, hfz14_0, hfz14_1, hfz14_2⟩ := bq3_ BK287))
    go_ret
    exact ⟨eR_, bU_ HB⟩
  ·rw [if_neg c3] at H
   have c3b0 : decide (a0_0 ≤ 96) = false := decide_eq_false c3
   clear c3;obtain rfl := Option.some.inj H
   go_enter Tryz.func11, Tryz.ntmps11
   go_wp2_with (first | ((with_reducible refine gate_dst (N := 1) rfl ?_); refine bx_ (N := 1) (cs := #[.int .i64 a0_0, .int .i64 a0_1, .int .i64 a0_2]) (t := 31) ?_; intro gb287 hg w15 hbox hb; have BK287 := M_ (hbox); have GW287 := M_ (gw_ HB hg); have GE287 := M_ (gw_ HB hg); replace HB := M_ (bS_ HB hb); clear hb hbox hg; obtain ⟨hcz16_0, hcz16_1, hcz16_2, hfz16_0, hfz16_1, hfz16_2⟩ := bq3_ BK287))
   go_ret
   exact ⟨eR_, bU_ HB⟩
 ·rw [if_neg c2] at H
  have c2b0 : decide (24 ≤ a0_0) = false := decide_eq_false c2
  clear c2;obtain rfl := Option.some.inj H
  go_enter Tryz.func11, Tryz.ntmps11
  go_wp2_with (first | ((with_reducible refine gate_dst (N := 1) rfl ?_); refine bx_ (N := 1) (cs := #[.int .i64 a0_0, .int .i64 a0_1, .int .i64 a0_2]) (t := 31) ?_; intro gb287 hg w17 hbox hb; have BK287 := M_ (hbox); have GW287 := M_ (gw_ HB hg); have GE287 := M_ (gw_ HB hg); replace HB := M_ (bS_ HB hb); clear hb hbox hg; obtain ⟨hcz18_0, hcz18_1, hcz18_2, hfz18_0, hfz18_1, hfz18_2⟩ := bq3_ BK287))
  go_ret
  exact ⟨eR_, bU_ HB⟩
def impl_noteLess.f (a0_0 : Int) (a0_1 : Int) (a0_2 : Int) (a1_0 : Int) (a1_1 : Int) (a1_2 : Int) : Option (Bool) := if a0_1 = a1_1 then (some (decide (a0_0 < a1_0))) else (some (decide (a0_1 < a1_1)))
set_option maxHeartbeats 8000000 in
set_option maxRecDepth 100000 in
theorem impl_noteLess.calls (a0_0 : Int) (a0_1 : Int) (a0_2 : Int) (a1_0 : Int) (a1_1 : Int) (a1_2 : Int) (r : Bool) (w : World) (h : impl_noteLess.f a0_0 a0_1 a0_2 a1_0 a1_1 a1_2 = some r) :
  Calls Tryz.prog 46 #[.agg #[.int .i64 a0_0, .int .i64 a0_1, .int .i64 a0_2], .agg #[.int .i64 a1_0, .int .i64 a1_1, .int .i64 a1_2]] w fun e w' => e = .returned (.bool r) ∧ Below w.heap.size w w' := by
 have hu31 := Tryz.underlying31;have HB := M_ (Below.refl w.heap.size w)
 have H : (if a0_1 = a1_1 then (some (decide (a0_0 < a1_0))) else (some (decide (a0_1 < a1_1)))) = some r := h
 clear h
 by_cases c3 : a0_1 = a1_1
 ·rw [if_pos c3] at H
  have c3b0 : (a0_1 == a1_1) = true := beq_iff_eq.mpr c3
  have c3b1 : (a0_1 != a1_1) = false := bne_eq_false_iff_eq.mpr c3
  clear c3;obtain rfl := Option.some.inj H
  go_enter Tryz.func46, Tryz.ntmps46
  go_wp2_with (first | ((with_reducible refine gate_dst (N := 2) rfl ?_); refine bx_ (N := 2) (cs := #[.int .i64 a0_0, .int .i64 a0_1, .int .i64 a0_2]) (t := 31) ?_; intro gb288 hg w4 hbox hb; have BK288 := M_ (hbox); have GW288 := M_ (gw_ HB hg); have GE288 := M_ (gw_ HB hg); replace HB := M_ (bS_ HB hb); clear hb hbox hg) | ((with_reducible refine gate_dst (N := 3) rfl ?_); refine bx_ (N := 3) (cs := #[.int .i64 a1_0, .int .i64 a1_1, .int .i64 a1_2]) (t := 31) ?_; intro gb289 hg w5 hbox hb; have BK289 := M_ (hbox); have GW289 := M_ (gw_ HB hg); have GE289 := M_ (gw_ HB hg); replace HB := M_ (bS_ HB hb); have NB288_289 := M_ (nb_ BK288 hg); have NB289_288 := M_ ((by rw [hg]; exact Nat.ne_of_gt (blk_lt (kU_ BK288)) : gb289 ≠ gb288)); replace BK288 := M_ (kb_ BK288 hb); clear hb hbox hg; have hnb6 := NB288_289.out; have hnc6 := NB289_288.out; obtain ⟨hcz7_0, hcz7_1, hcz7_2, hfz7_0, hfz7_1, hfz7_2⟩ := bq3_ BK288; obtain ⟨hcz8_0, hcz8_1, hcz8_2, hfz8_0, hfz8_1, hfz8_2⟩ := bq3_ BK289))
  go_ret
  exact ⟨eR_, bU_ HB⟩
 ·rw [if_neg c3] at H
  have c3b0 : (a0_1 == a1_1) = false := beq_eq_false_iff_ne.mpr c3
  have c3b1 : (a0_1 != a1_1) = true := bne_iff_ne.mpr c3
  obtain rfl := Option.some.inj H
  go_enter Tryz.func46, Tryz.ntmps46
  go_wp2_with (first | ((with_reducible refine gate_dst (N := 2) rfl ?_); refine bx_ (N := 2) (cs := #[.int .i64 a0_0, .int .i64 a0_1, .int .i64 a0_2]) (t := 31) ?_; intro gb288 hg w9 hbox hb; have BK288 := M_ (hbox); have GW288 := M_ (gw_ HB hg); have GE288 := M_ (gw_ HB hg); replace HB := M_ (bS_ HB hb); clear hb hbox hg) | ((with_reducible refine gate_dst (N := 3) rfl ?_); refine bx_ (N := 3) (cs := #[.int .i64 a1_0, .int .i64 a1_1, .int .i64 a1_2]) (t := 31) ?_; intro gb289 hg w10 hbox hb; have BK289 := M_ (hbox); have GW289 := M_ (gw_ HB hg); have GE289 := M_ (gw_ HB hg); replace HB := M_ (bS_ HB hb); have NB288_289 := M_ (nb_ BK288 hg); have NB289_288 := M_ ((by rw [hg]; exact Nat.ne_of_gt (blk_lt (kU_ BK288)) : gb289 ≠ gb288)); replace BK288 := M_ (kb_ BK288 hb); clear hb hbox hg; have hnb11 := NB288_289.out; have hnc11 := NB289_288.out; obtain ⟨hcz12_0, hcz12_1, hcz12_2, hfz12_0, hfz12_1, hfz12_2⟩ := bq3_ BK288; obtain ⟨hcz13_0, hcz13_1, hcz13_2, hfz13_0, hfz13_1, hfz13_2⟩ := bq3_ BK289))
  go_ret
  exact ⟨eR_, bU_ HB⟩
def impl_noteEnd.f (a0_0 : Int) (a0_1 : Int) (a0_2 : Int) : Option (Int) := some (wrap64 (a0_1 + a0_2))
set_option maxHeartbeats 8000000 in
set_option maxRecDepth 100000 in
theorem impl_noteEnd.calls (a0_0 : Int) (a0_1 : Int) (a0_2 : Int) (r : Int) (w : World) (h : impl_noteEnd.f a0_0 a0_1 a0_2 = some r) :
  Calls Tryz.prog 47 #[.agg #[.int .i64 a0_0, .int .i64 a0_1, .int .i64 a0_2]] w fun e w' => e = .returned (.int .i64 r) ∧ Below w.heap.size w w' := by
 have hu31 := Tryz.underlying31;have HB := M_ (Below.refl w.heap.size w)
 have H : (some (wrap64 (a0_1 + a0_2))) = some r := h
 clear h;obtain rfl := Option.some.inj H
 go_enter Tryz.func47, Tryz.ntmps47
 go_wp2_with (first | ((with_reducible refine gate_dst (N := 1) rfl ?_); refine bx_ (N := 1) (cs := #[.int .i64 a0_0, .int .i64 a0_1, .int .i64 a0_2]) (t := 31) ?_; intro gb290 hg w2 hbox hb; have BK290 := M_ (hbox); have GW290 := M_ (gw_ HB hg); have GE290 := M_ (gw_ HB hg); replace HB := M_ (bS_ HB hb); clear hb hbox hg; obtain ⟨hcz3_0, hcz3_1, hcz3_2, hfz3_0, hfz3_1, hfz3_2⟩ := bq3_ BK290))
 go_ret
 exact ⟨eR_, bU_ HB⟩
end Go.Proofs.YtfpfjnmjekjnhaaGreatDoor.PFnNotes
