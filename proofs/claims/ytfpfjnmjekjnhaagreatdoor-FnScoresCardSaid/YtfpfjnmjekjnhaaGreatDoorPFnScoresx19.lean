-- by wip/xprint.py, over the kit's printer
import Derived.Test.YtfpfjnmjekjnhaaGreatDoorPFnScoresx0
import Derived.Test.YtfpfjnmjekjnhaaGreatDoorPFnScoresx2
import Derived.Test.YtfpfjnmjekjnhaaGreatDoorPFnScoresx3
import Derived.Test.YtfpfjnmjekjnhaaGreatDoorPFnScoresx4
import Derived.Test.YtfpfjnmjekjnhaaGreatDoorPFnScoresx5
import Derived.Test.YtfpfjnmjekjnhaaGreatDoorPFnScoresx6
import Derived.Test.YtfpfjnmjekjnhaaGreatDoorPFnScoresx12
import Derived.Test.YtfpfjnmjekjnhaaGreatDoorPFnScoresx13
import Derived.Test.YtfpfjnmjekjnhaaGreatDoorPFnScoresx14
import Derived.Test.YtfpfjnmjekjnhaaGreatDoorPFnScoresx15
import Derived.Test.YtfpfjnmjekjnhaaGreatDoorPFnScoresx16
import Derived.Test.YtfpfjnmjekjnhaaGreatDoorPFnScoresx17
import Derived.Test.YtfpfjnmjekjnhaaGreatDoorPFnScoresx18
namespace Go.Proofs.YtfpfjnmjekjnhaaGreatDoor.PFnScores
open Go.RowKit Go.Proofs.YtfpfjnmjekjnhaaGreatDoorW.PrintWords Go.Proofs.YtfpfjnmjekjnhaaGreatDoorW.PrintLast Go.Proofs.YtfpfjnmjekjnhaaGreatDoorW.PrintMore
attribute [local go_sem] max2_int min2_int max_two min_two max_three min_three max_four min_four   -- for this text's walks alone
set_option linter.unusedVariables false
set_option linter.unusedSimpArgs false

set_option maxHeartbeats 8000000 in
set_option maxRecDepth 100000 in
theorem laws_FnScores.calls (k : Nat) (A0 : Option Addr) (c0 : Nat) (l0 : List Int) (A1 : Option Addr) (c1 : Nat) (l1 : List Int) (r : Bool) (w : World) (hrt_ : r = true) (hr0 : Kd.C (Kd.int .u8) w A0 l0.length l0) (hc0 : l0.length ≤ c0) (hr1 : Kd.C (Kd.int .u8) w A1 l1.length l1) (hc1 : l1.length ≤ c1) (hM : ∃ m, w.cell? ⟨0, 0, none⟩ = some (.int .i64 m)) (hT : Lib.TabIs Tryz.prog w "internal/strconv.uint64pow10" .u64 Lib.pow10Tab) (h : laws_FnScores.f k l0 l1 = some r) :
  Calls Tryz.prog 4 #[.slice A0 l0.length c0, .slice A1 l1.length c1] w fun e w' => e = .returned (.bool r) ∧ Below w.heap.size w w' := by
 have hu31 := Tryz.underlying31;have HR0 := M_ hr0;have HC0 := M_ hc0;clear hr0 hc0;have HR1 := M_ hr1;have HC1 := M_ hc1;clear hr1 hc1;have HM := M_ hM;clear hM;have HT := M_ hT;clear hT;have HB := M_ (Below.refl w.heap.size w)
 have H : ((laws_big.f l0 l1).bind fun t507 => (if t507 = true then (some true) else ((spec_DrawScoreText.f k l0).bind fun t508 => ((impl_ScoreText.f k t508).bind fun bt511 => ((spec_ScoreText.f k t508).bind fun bt513 => ((impl_EndOfScore.f k t508).bind fun bt515 => ((spec_EndOfScore.f k t508).bind fun bt517 => ((impl_RangeOf.f k t508).bind fun bt519 => ((spec_RangeOf.f k t508).bind fun bt522 => (if (bt511.2 != bt513.2) = true then (laws_FnScores.j0 k l1 t508 bt511.1 bt511.2 bt517.1 bt522.1 bt522.2.1 true) else (if bt511.1.toList = bt513.1.toList then (if (bt515.2 != bt517.2) = true then (laws_FnScores.j0 k l1 t508 bt511.1 bt511.2 bt517.1 bt522.1 bt522.2.1 true) else (if bt515.1 = bt517.1 then (if (bt519.2.2 != bt522.2.2) = true then (laws_FnScores.j0 k l1 t508 bt511.1 bt511.2 bt517.1 bt522.1 bt522.2.1 true) else (if bt519.1 = bt522.1 then (if bt519.2.1 = bt522.2.1 then (if (bt515.2 != bt511.2) = true then (laws_FnScores.j0 k l1 t508 bt511.1 bt511.2 bt517.1 bt522.1 bt522.2.1 true) else (if bt511.2 = true then (if (bt519.2.2 != (decide ((t508.length : Int) > 0))) = true then (laws_FnScores.j0 k l1 t508 bt511.1 bt511.2 bt517.1 bt522.1 bt522.2.1 true) else ((impl_IsScore.f k t508).bind fun t525 => (laws_FnScores.j0 k l1 t508 bt511.1 bt511.2 bt517.1 bt522.1 bt522.2.1 (t525 != bt511.2)))) else (if (bt519.2.2 != false) = true then (laws_FnScores.j0 k l1 t508 bt511.1 bt511.2 bt517.1 bt522.1 bt522.2.1 true) else ((impl_IsScore.f k t508).bind fun t526 => (laws_FnScores.j0 k l1 t508 bt511.1 bt511.2 bt517.1 bt522.1 bt522.2.1 (t526 != bt511.2)))))) else (laws_FnScores.j0 k l1 t508 bt511.1 bt511.2 bt517.1 bt522.1 bt522.2.1 true)) else (laws_FnScores.j0 k l1 t508 bt511.1 bt511.2 bt517.1 bt522.1 bt522.2.1 true))) else (laws_FnScores.j0 k l1 t508 bt511.1 bt511.2 bt517.1 bt522.1 bt522.2.1 true))) else (laws_FnScores.j0 k l1 t508 bt511.1 bt511.2 bt517.1 bt522.1 bt522.2.1 true)))))))))))) = some r := h
 clear h;replace H := Option.bind_eq_some_iff.mp H;obtain ⟨t507, A30, H⟩ := H;(try dsimp only at H);have A3 := M_ A30;clear A30
 by_cases c4 : t507 = true
 ·subst c4
  have H1 : (some true) = some r := by rw [if_pos rfl] at H; exact H
  clear H;have H := H1;clear H1;obtain rfl := Option.some.inj H
  go_enter Tryz.func4, Tryz.ntmps4
  go_wp2_with (first | ((with_reducible refine gc_ 5 ?_); refine gM_ (some 50) Tryz.func5 #[.slice A0 l0.length c0, .slice A1 l1.length c1] ?_; (with_reducible refine (laws_big.calls _ _ l0 _ _ l1 true _ ?side1 ?side2 ?side3 ?side4 A3.out).mono ?_); (case side1 => exact cU_ HR0.out); (case side2 => exact HC0.out); (case side3 => exact cU_ HR1.out); (case side4 => exact HC1.out); rintro e w' ⟨rfl, ⟨nd, rfl⟩⟩; refine ⟨_, rfl, ?_⟩))
  go_ret
  exact ⟨eR_, bU_ HB⟩
 ·replace c4 := Bool.eq_false_iff.mpr c4
  subst c4
  rw [if_neg (show ¬ (false = true) by decide)] at H
  replace H := Option.bind_eq_some_iff.mp H;obtain ⟨t508, A50, H⟩ := H;(try dsimp only at H);have A5 := M_ A50;clear A50;replace H := Option.bind_eq_some_iff.mp H;obtain ⟨⟨t511, t512⟩, A60, H⟩ := H;(try dsimp only at H);have A6 := M_ A60;clear A60;replace H := Option.bind_eq_some_iff.mp H;obtain ⟨⟨t513, t514⟩, A70, H⟩ := H;(try dsimp only at H);have A7 := M_ A70;clear A70;replace H := Option.bind_eq_some_iff.mp H;obtain ⟨⟨t515, t516⟩, A80, H⟩ := H;(try dsimp only at H);have A8 := M_ A80;clear A80;replace H := Option.bind_eq_some_iff.mp H;obtain ⟨⟨t517, t518⟩, A90, H⟩ := H;(try dsimp only at H);have A9 := M_ A90;clear A90;replace H := Option.bind_eq_some_iff.mp H;obtain ⟨⟨t519, t520, t521⟩, A100, H⟩ := H;(try dsimp only at H);have A10 := M_ A100;clear A100;replace H := Option.bind_eq_some_iff.mp H;obtain ⟨⟨t522, t523, t524⟩, A110, H⟩ := H;(try dsimp only at H);have A11 := M_ A110;clear A110;have HC12 := M_ H;clear H
  go_enter Tryz.func4, Tryz.ntmps4
  go_upto_region 10 with (first | ((with_reducible refine gc_ 5 ?_); refine gM_ (some 50) Tryz.func5 #[.slice A0 l0.length c0, .slice A1 l1.length c1] ?_; (with_reducible refine (laws_big.calls _ _ l0 _ _ l1 false _ ?side1 ?side2 ?side3 ?side4 A3.out).mono ?_); (case side1 => exact cU_ HR0.out); (case side2 => exact HC0.out); (case side3 => exact cU_ HR1.out); (case side4 => exact HC1.out); rintro e w' ⟨rfl, ⟨nd, rfl⟩⟩; refine ⟨_, rfl, ?_⟩) | ((with_reducible refine gc_ 27 ?_); refine gM_ (some 52) Tryz.func27 #[.slice A0 l0.length c0] ?_; (with_reducible refine (spec_DrawScoreText.calls k _ _ l0 t508 _ ?side1 ?side2 A5.out).mono ?_); (case side1 => exact cU_ HR0.out); (case side2 => exact HC0.out); rintro e w13 ⟨v509, rfl, ho0, hb⟩; refine ⟨_, rfl, ?_⟩; have HO510 := M_ (Kd.R_lower ho0 (bZ_ HB)); replace HB := M_ (bS_ HB hb); clear hb ho0; obtain ⟨Ao14, co14, eo14⟩ := Kd.R_slice HO510.out; subst eo14) | ((with_reducible refine gc_ 28 ?_); refine gM_ (some 55) Tryz.func28 #[.slice Ao14 t508.length co14] ?_; (with_reducible refine (impl_ScoreText.calls k _ _ t508 t511 t512 _ ?side1 ?side2 (tab_below_ HT.out (bU_ HB)) A6.out).mono ?_); (case side1 => exact cU_ (Kd.R_reads' HO510.out).2.2); (case side2 => exact (Kd.R_reads' HO510.out).2.1); rintro e w15 ⟨rfl, hb⟩; refine ⟨_, rfl, ?_⟩; replace HO510 := M_ (rB_ HO510 hb); replace HB := M_ (bS_ HB hb); clear hb) | ((with_reducible refine gc_ 29 ?_); refine gM_ (some 60) Tryz.func29 #[.slice Ao14 t508.length co14] ?_; (with_reducible refine (spec_ScoreText.calls k _ _ t508 t513 t514 _ ?side1 ?side2 A7.out).mono ?_); (case side1 => exact cU_ (Kd.R_reads' HO510.out).2.2); (case side2 => exact (Kd.R_reads' HO510.out).2.1); rintro e w16 ⟨rfl, hb⟩; refine ⟨_, rfl, ?_⟩; replace HO510 := M_ (rB_ HO510 hb); replace HB := M_ (bS_ HB hb); clear hb) | ((with_reducible refine gc_ 30 ?_); refine gM_ (some 65) Tryz.func30 #[.slice Ao14 t508.length co14] ?_; (with_reducible refine (impl_EndOfScore.calls k _ _ t508 t515 t516 _ ?side1 ?side2 A8.out).mono ?_); (case side1 => exact cU_ (Kd.R_reads' HO510.out).2.2); (case side2 => exact (Kd.R_reads' HO510.out).2.1); rintro e w17 ⟨rfl, hb⟩; refine ⟨_, rfl, ?_⟩; replace HO510 := M_ (rB_ HO510 hb); replace HB := M_ (bS_ HB hb); clear hb) | ((with_reducible refine gc_ 31 ?_); refine gM_ (some 70) Tryz.func31 #[.slice Ao14 t508.length co14] ?_; (with_reducible refine (spec_EndOfScore.calls k _ _ t508 t517 t518 _ ?side1 ?side2 A9.out).mono ?_); (case side1 => exact cU_ (Kd.R_reads' HO510.out).2.2); (case side2 => exact (Kd.R_reads' HO510.out).2.1); rintro e w18 ⟨rfl, hb⟩; refine ⟨_, rfl, ?_⟩; replace HO510 := M_ (rB_ HO510 hb); replace HB := M_ (bS_ HB hb); clear hb) | ((with_reducible refine gc_ 32 ?_); refine gM_ (some 75) Tryz.func32 #[.slice Ao14 t508.length co14] ?_; (with_reducible refine (impl_RangeOf.calls k _ _ t508 t519 t520 t521 _ ?side1 ?side2 A10.out).mono ?_); (case side1 => exact cU_ (Kd.R_reads' HO510.out).2.2); (case side2 => exact (Kd.R_reads' HO510.out).2.1); rintro e w19 ⟨rfl, hb⟩; refine ⟨_, rfl, ?_⟩; replace HO510 := M_ (rB_ HO510 hb); replace HB := M_ (bS_ HB hb); clear hb) | ((with_reducible refine gc_ 33 ?_); refine gM_ (some 81) Tryz.func33 #[.slice Ao14 t508.length co14] ?_; (with_reducible refine (spec_RangeOf.calls k _ _ t508 t522 t523 t524 _ ?side1 ?side2 A11.out).mono ?_); (case side1 => exact cU_ (Kd.R_reads' HO510.out).2.2); (case side2 => exact (Kd.R_reads' HO510.out).2.1); rintro e w20 ⟨rfl, hb⟩; refine ⟨_, rfl, ?_⟩; replace HO510 := M_ (rB_ HO510 hb); replace HB := M_ (bS_ HB hb); clear hb))
  (try simp only [Act.put, la_, lb_, lc_])
  go_cut [138] (fun v138 wc => ∃ (kq : Nat) (x138_11 : Bool), v138 = .bool x138_11 ∧ Aside0 (laws_FnScores.j0 kq l1 t508 t511 t512 t517 t522 t523 x138_11 = some r) ∧ Aside0 (kq ≤ k) ∧ Aside0 (Kd.R k31 31 wc w.heap.size (fun _ => True) (.slice Ao14 t508.length co14) t508) ∧ Aside0 (Below w.heap.size w wc))
  case first => as_aux_lemma =>
   have H := HC12.out;clear HC12
   by_cases c21 : (t512 != t514) = true
   ·rw [if_pos c21] at H
    exact (laws_FnScores_j0_df hrt_ H).elim
   ·rw [if_neg c21] at H
    have c21b0 : (t512 != t514) = false := by simpa using c21
    (try (have c21b1 : decide (t512 = t514) = true := by simpa using c21))
    (try (have c21b2 : (t512 == t514) = true := by simpa using c21))
    clear c21
    (first | rw [c21b0] | (simp only [i64_w, i32_w]; rw [c21b0]) | skip)
    by_cases c22 : t511.toList = t513.toList
    ·rw [if_pos c22] at H
     have c22b0 : (t511.toList == t513.toList) = true := beq_iff_eq.mpr c22
     have c22b1 : (t511.toList != t513.toList) = false := bne_eq_false_iff_eq.mpr c22
     clear c22
     by_cases c23 : (t516 != t518) = true
     ·rw [if_pos c23] at H
      exact (laws_FnScores_j0_df hrt_ H).elim
     ·rw [if_neg c23] at H
      have c23b0 : (t516 != t518) = false := by simpa using c23
      (try (have c23b1 : decide (t516 = t518) = true := by simpa using c23))
      (try (have c23b2 : (t516 == t518) = true := by simpa using c23))
      clear c23
      by_cases c24 : t515 = t517
      ·rw [if_pos c24] at H
       have c24b0 : (t515 == t517) = true := beq_iff_eq.mpr c24
       have c24b1 : (t515 != t517) = false := bne_eq_false_iff_eq.mpr c24
       clear c24
       by_cases c25 : (t521 != t524) = true
       ·rw [if_pos c25] at H
        exact (laws_FnScores_j0_df hrt_ H).elim
       ·rw [if_neg c25] at H
        have c25b0 : (t521 != t524) = false := by simpa using c25
        (try (have c25b1 : decide (t521 = t524) = true := by simpa using c25))
        (try (have c25b2 : (t521 == t524) = true := by simpa using c25))
        clear c25
        by_cases c26 : t519 = t522
        ·rw [if_pos c26] at H
         have c26b0 : (t519 == t522) = true := beq_iff_eq.mpr c26
         have c26b1 : (t519 != t522) = false := bne_eq_false_iff_eq.mpr c26
         clear c26
         by_cases c27 : t520 = t523
         ·rw [if_pos c27] at H
          have c27b0 : (t520 == t523) = true := beq_iff_eq.mpr c27
          have c27b1 : (t520 != t523) = false := bne_eq_false_iff_eq.mpr c27
          clear c27
          by_cases c28 : (t516 != t512) = true
          ·rw [if_pos c28] at H
           exact (laws_FnScores_j0_df hrt_ H).elim
          ·rw [if_neg c28] at H
           have c28b0 : (t516 != t512) = false := by simpa using c28
           (try (have c28b1 : decide (t516 = t512) = true := by simpa using c28))
           (try (have c28b2 : (t516 == t512) = true := by simpa using c28))
           clear c28
           by_cases c29 : t512 = true
           ·subst c29
            rw [if_pos rfl] at H
            by_cases c30 : (t521 != (decide ((t508.length : Int) > 0))) = true
            ·rw [if_pos c30] at H
             exact (laws_FnScores_j0_df hrt_ H).elim
            ·rw [if_neg c30] at H
             have eq_ : t521 = decide ((t508.length : Int) > 0) := Classical.byContradiction fun n => c30 (bne_iff_ne.2 n)
             have c30b3 := eq_true (show t521 = decide (0 < t508.length) from by rw [eq_, decide_eq_decide]; omega)
             clear eq_
             have c30b0 : (t521 != (decide ((t508.length : Int) > 0))) = false := by simpa using c30
             (try (have c30b1 : decide (t521 = (decide ((t508.length : Int) > 0))) = true := by simpa using c30))
             (try (have c30b2 : (t521 == (decide ((t508.length : Int) > 0))) = true := by simpa using c30))
             clear c30;replace H := Option.bind_eq_some_iff.mp H;obtain ⟨t525, A310, H⟩ := H;(try dsimp only at H);have A31 := M_ A310;clear A310
             have H' := M_ H
             clear H
             go_wp2_with (first | (go_at_call 10; (with_reducible refine (impl_IsScore.calls k _ _ t508 t525 _ ?side1 ?side2 A31.out).mono ?_); (case side1 => exact cU_ (Kd.R_reads' HO510.out).2.2); (case side2 => exact (Kd.R_reads' HO510.out).2.1); rintro e w32 ⟨rfl, hb⟩; replace HO510 := M_ (rB_ HO510 hb); replace HB := M_ (bS_ HB hb); clear hb))
             go_meet
             case rel => exact ⟨_, ((t525 != true)), eD_, H', ⟨by first | omega | exact Nat.le_refl _⟩, ⟨rU_ HO510.out⟩, ⟨bU_ HB⟩⟩
           ·replace c29 := Bool.eq_false_iff.mpr c29
            subst c29
            rw [if_neg (show ¬ (false = true) by decide)] at H
            by_cases c33 : (t521 != false) = true
            ·rw [if_pos c33] at H
             exact (laws_FnScores_j0_df hrt_ H).elim
            ·rw [if_neg c33] at H
             have c33b0 : (t521 != false) = false := by simpa using c33
             (try (have c33b1 : decide (t521 = false) = true := by simpa using c33))
             (try (have c33b2 : (t521 == false) = true := by simpa using c33))
             clear c33;replace H := Option.bind_eq_some_iff.mp H;obtain ⟨t526, A340, H⟩ := H;(try dsimp only at H);have A34 := M_ A340;clear A340
             have H' := M_ H
             clear H
             go_wp2_with (first | (go_at_call 10; (with_reducible refine (impl_IsScore.calls k _ _ t508 t526 _ ?side1 ?side2 A34.out).mono ?_); (case side1 => exact cU_ (Kd.R_reads' HO510.out).2.2); (case side2 => exact (Kd.R_reads' HO510.out).2.1); rintro e w35 ⟨rfl, hb⟩; replace HO510 := M_ (rB_ HO510 hb); replace HB := M_ (bS_ HB hb); clear hb))
             go_meet
             case rel => exact ⟨_, ((t526 != false)), eD_, H', ⟨by first | omega | exact Nat.le_refl _⟩, ⟨rU_ HO510.out⟩, ⟨bU_ HB⟩⟩
         ·rw [if_neg c27] at H
          exact (laws_FnScores_j0_df hrt_ H).elim
        ·rw [if_neg c26] at H
         exact (laws_FnScores_j0_df hrt_ H).elim
      ·rw [if_neg c24] at H
       exact (laws_FnScores_j0_df hrt_ H).elim
    ·rw [if_neg c22] at H
     exact (laws_FnScores_j0_df hrt_ H).elim
  case rest => as_aux_lemma =>
   clear HC12;obtain ⟨kq, x138_11, rfl, HA, HJ11, HO_5, HB⟩ := hcut
   cases kq with
   | zero => exact absurd HA.out (by simp [laws_FnScores.j0])
   | succ kj11 =>
    have H := HA.out;clear HA;simp only [laws_FnScores.j0] at H
    by_cases c36 : x138_11 = true
    ·subst c36
     have H1 : (some false) = some r := by rw [if_pos rfl] at H; exact H
     exact (df_ hrt_ H1).elim
    ·replace c36 := Bool.eq_false_iff.mpr c36
     subst c36
     rw [if_neg (show ¬ (false = true) by decide)] at H
     have HC37 := M_ H;clear H
     go_upto_if 139 with (fail)
     go_cut [] (fun wc => ∃ (kq : Nat), Aside0 (laws_FnScores.j4 kq l1 = some r) ∧ Aside0 (kq ≤ kj11) ∧ Aside0 (Below w.heap.size w wc))
     case first => as_aux_lemma =>
      have H := HC37.out;clear HC37
      by_cases c38 : t512 = true
      ·subst c38
       rw [if_pos rfl] at H
       replace H := Option.bind_eq_some_iff.mp H;obtain ⟨⟨t527, t528⟩, A390, H⟩ := H;(try dsimp only at H);have A39 := M_ A390;clear A390;replace H := Option.bind_eq_some_iff.mp H;obtain ⟨⟨t531, t532⟩, A400, H⟩ := H;(try dsimp only at H);have A40 := M_ A400;clear A400;replace H := Option.bind_eq_some_iff.mp H;obtain ⟨⟨t535, t536⟩, A410, H⟩ := H;(try dsimp only at H);have A41 := M_ A410;clear A410;have HC42 := M_ H;clear H
       go_upto_region 16 with (first | ((with_reducible refine gc_ 22 ?_); refine gM_ (some 142) Tryz.func22 #[.string t511] ?_; (with_reducible refine (impl_ParseScore.calls kj11 t511 t527 t528 _ (someInt_ HM.out (bU_ HB)) A39.out).mono ?_); rintro e w43 ⟨v529, rfl, ho0, hb⟩; refine ⟨_, rfl, ?_⟩; have HO530 := M_ (Kd.R_lower (Kd.R_new' ho0 (rl_ HO_5)) (bZ_ HB)); replace HO_5 := M_ (re_ HO_5 ho0 hb); replace HB := M_ (bS_ HB hb); clear hb ho0) | ((with_reducible refine gc_ 7 ?_); refine gM_ (some 147) Tryz.func7 #[.slice Ao14 t508.length co14] ?_; (with_reducible refine (impl_SortNotes.calls kj11 _ _ t508 t531 t532 _ ?side1 ?side2 A40.out).mono ?_); (case side1 => exact cU_ (Kd.R_reads' HO_5.out).2.2); (case side2 => exact (Kd.R_reads' HO_5.out).2.1); rintro e w44 ⟨v533, rfl, ho0, hb⟩; refine ⟨_, rfl, ?_⟩; have HO534 := M_ (Kd.R_lower (Kd.R_new' (Kd.R_new' ho0 (rl_ HO_5)) (rl_ HO530)) (bZ_ HB)); replace HO_5 := M_ (re_ HO_5 ho0 hb); replace HO530 := M_ (re_ HO530 ho0 hb); replace HB := M_ (bS_ HB hb); clear hb ho0) | ((with_reducible refine gc_ 16 ?_); refine gM_ (some 153) Tryz.func16 #[.slice Ao14 t508.length co14, .int .i64 t517] ?_; (with_reducible refine (impl_SoundingAt.calls kj11 _ _ t508 t517 t535 t536 _ ?side1 ?side2 A41.out).mono ?_); (case side1 => exact cU_ (Kd.R_reads' HO_5.out).2.2); (case side2 => exact (Kd.R_reads' HO_5.out).2.1); rintro e w45 ⟨v537, rfl, ho0, hb⟩; refine ⟨_, rfl, ?_⟩; replace HO_5 := M_ (rB_ HO_5 hb); replace HO530 := M_ (rB_ HO530 hb); replace HO534 := M_ (rB_ HO534 hb); have HO538 := M_ (Kd.R_lower ho0 (bZ_ HB)); replace HB := M_ (bS_ HB hb); clear hb ho0))
       (try simp only [Act.put, la_, lb_, lc_])
       go_cut [182] (fun v182 wc => ∃ (kq : Nat) (x182_41 : Bool), v182 = .bool x182_41 ∧ Aside0 (laws_FnScores.j1 kq l1 t508 t517 t522 t523 x182_41 = some r) ∧ Aside0 (kq ≤ kj11) ∧ Aside0 (Kd.R k31 31 wc w.heap.size (fun _ => True) (.slice Ao14 t508.length co14) t508) ∧ Aside0 (Below w.heap.size w wc))
       case first => as_aux_lemma =>
        have H := HC42.out;clear HC42
        by_cases c46 : t528 = true
        ·subst c46
         rw [if_pos rfl] at H
         replace H := Option.bind_eq_some_iff.mp H;obtain ⟨t539, A470, H⟩ := H;(try dsimp only at H);have A47 := M_ A470;clear A470
         by_cases c48 : t539 = true
         ·subst c48
          rw [if_pos rfl] at H
          by_cases c49 : t532 = true
          ·subst c49
           rw [if_pos rfl] at H
           replace H := Option.bind_eq_some_iff.mp H;obtain ⟨t540, A500, H⟩ := H;(try dsimp only at H);have A50 := M_ A500;clear A500
           by_cases c51 : t540 = true
           ·subst c51
            rw [if_pos rfl] at H
            by_cases c52 : t536 = true
            ·subst c52
             rw [if_pos rfl] at H
             have H' := M_ H
             clear H;obtain ⟨Ao53, co53, eo53⟩ := Kd.R_slice HO530.out;subst eo53
             go_wp2_with (first | (go_at_call 9; (with_reducible refine (laws_pSameNotes.calls kj11 _ _ t527 _ _ t508 true _ ?side1 ?side2 ?side3 ?side4 A47.out).mono ?_); (case side1 => exact cU_ (Kd.R_reads' HO530.out).2.2); (case side2 => exact (Kd.R_reads' HO530.out).2.1); (case side3 => exact cU_ (Kd.R_reads' HO_5.out).2.2); (case side4 => exact (Kd.R_reads' HO_5.out).2.1); rintro e w' ⟨rfl, ⟨nd, rfl⟩⟩; obtain ⟨Ao54, co54, eo54⟩ := Kd.R_slice HO534.out; subst eo54) | (go_at_call 9; (with_reducible refine (laws_pSameNotes.calls kj11 _ _ t531 _ _ t508 true _ ?side1 ?side2 ?side3 ?side4 A50.out).mono ?_); (case side1 => exact cU_ (Kd.R_reads' HO534.out).2.2); (case side2 => exact (Kd.R_reads' HO534.out).2.1); (case side3 => exact cU_ (Kd.R_reads' HO_5.out).2.2); (case side4 => exact (Kd.R_reads' HO_5.out).2.1); rintro e w' ⟨rfl, ⟨nd, rfl⟩⟩; obtain ⟨Ao55, co55, eo55⟩ := Kd.R_slice HO538.out; subst eo55))
             go_meet
             case rel => exact ⟨_, (decide ((t535.length : Int) > 0)), eD_, H', ⟨by have := HJ11.out; first | omega | exact Nat.le_refl _⟩, ⟨by (with_reducible repeat (first | apply ra_ | apply rn_ | apply rd_)); exact rm_ HO_5.out (fun _ hk => trivial)⟩, ⟨bU_ HB⟩⟩
            ·replace c52 := Bool.eq_false_iff.mpr c52
             subst c52
             have H1 : (laws_FnScores.j1 kj11 l1 t508 t517 t522 t523 true) = some r := by rw [if_neg (show ¬ (false = true) by decide)] at H; exact H
             exact (laws_FnScores_j1_df hrt_ H1).elim
           ·replace c51 := Bool.eq_false_iff.mpr c51
            subst c51
            have H1 : (laws_FnScores.j1 kj11 l1 t508 t517 t522 t523 true) = some r := by rw [if_neg (show ¬ (false = true) by decide)] at H; exact H
            exact (laws_FnScores_j1_df hrt_ H1).elim
          ·replace c49 := Bool.eq_false_iff.mpr c49
           subst c49
           have H1 : (laws_FnScores.j1 kj11 l1 t508 t517 t522 t523 true) = some r := by rw [if_neg (show ¬ (false = true) by decide)] at H; exact H
           exact (laws_FnScores_j1_df hrt_ H1).elim
         ·replace c48 := Bool.eq_false_iff.mpr c48
          subst c48
          have H1 : (laws_FnScores.j1 kj11 l1 t508 t517 t522 t523 true) = some r := by rw [if_neg (show ¬ (false = true) by decide)] at H; exact H
          exact (laws_FnScores_j1_df hrt_ H1).elim
        ·replace c46 := Bool.eq_false_iff.mpr c46
         subst c46
         have H1 : (laws_FnScores.j1 kj11 l1 t508 t517 t522 t523 true) = some r := by rw [if_neg (show ¬ (false = true) by decide)] at H; exact H
         exact (laws_FnScores_j1_df hrt_ H1).elim
       case rest => as_aux_lemma =>
        clear HC42;obtain ⟨kq, x182_41, rfl, HA, HJ41, HO_5, HB⟩ := hcut
        cases kq with
        | zero => exact absurd HA.out (by simp [laws_FnScores.j1])
        | succ kj41 =>
         have H := HA.out;clear HA;simp only [laws_FnScores.j1] at H
         by_cases c62 : x182_41 = true
         ·subst c62
          have H1 : (some false) = some r := by rw [if_pos rfl] at H; exact H
          exact (df_ hrt_ H1).elim
         ·replace c62 := Bool.eq_false_iff.mpr c62
          subst c62
          rw [if_neg (show ¬ (false = true) by decide)] at H
          have H' := M_ H
          clear H
          go_wp2
          go_loopg [185] kj41 (fun kq v185 w' => ∃ (x185_3 : Int), v185 = .int .i64 x185_3 ∧ Aside0 (laws_FnScores.l0 kq l1 t508 t517 t522 t523 t508 (t508.length : Int) x185_3 = some r) ∧ Aside0 (kq ≤ kj41) ∧ Aside0 (Kd.R k31 31 w' w.heap.size (fun _ => True) (.slice Ao14 t508.length co14) t508) ∧ Aside0 (Kd.R k31 31 w' w.heap.size (fun _ => True) (.slice Ao14 t508.length co14) t508) ∧ Aside0 (Below w.heap.size w w'))
          case atStart => exact ⟨(0), eD_, H', ⟨Nat.le_refl _⟩, ⟨rU_ HO_5.out⟩, ⟨rU_ HO_5.out⟩, ⟨bU_ HB⟩⟩
          case round =>
           clear H';obtain ⟨x185_3, rfl, HA, HK3, HO_5, HO_183, HB⟩ := hrel
           cases gk with
           | zero => exact absurd HA.out (by simp [laws_FnScores.l0])
           | succ k3 =>
            have H := HA.out;clear HA;simp only [laws_FnScores.l0] at H
            by_cases c63 : x185_3 < (t508.length : Int)
            ·rw [if_pos c63] at H
             have c63b0 : decide (x185_3 < (t508.length : Int)) = true := decide_eq_true c63
             clear c63
             by_cases c64 : 0 ≤ x185_3
             ·rw [if_pos c64] at H
              have c64b0 : decide (0 ≤ x185_3) = true := decide_eq_true c64
              clear c64
              by_cases c65 : x185_3 < (t508.length : Int)
              ·rw [if_pos c65] at H
               have c65b0 : decide (x185_3 < (t508.length : Int)) = true := decide_eq_true c65
               clear c65;replace H := Option.bind_eq_some_iff.mp H;obtain ⟨⟨t543, t544⟩, A660, H⟩ := H;(try dsimp only at H);have A66 := M_ A660;clear A660;replace H := Option.bind_eq_some_iff.mp H;obtain ⟨⟨t547, t548⟩, A670, H⟩ := H;(try dsimp only at H);have A67 := M_ A670;clear A670;have HC68 := M_ H;clear H
               have p541 : 0 ≤ (x185_3 : Int) := dT_
               have q541 : x185_3 < (t508.length : Int) := dT_
               obtain ⟨ad541, e541, hx541_0, hx541_1, hx541_2⟩ := at_T31 (Kd.R_reads' HO_183.out).2.2 x185_3 p541 q541;cases e541;replace p541 := eq_true p541;replace q541 := eq_true q541
               go_upto_region 23 with (first | ((with_reducible refine gate_dst (N := 27) rfl ?_); (try (refine gate_guard (by rfl) ?_; dsimp only)); refine bx_ (N := 27) (cs := #[.int .i64 0, .int .i64 0, .int .i64 0]) (t := 31) ?_; intro gb542 hg w69 hbox hb; replace HO_5 := M_ (rb_ (Kd.R_elderB (rU_ HO_5.out) gb542 (Nat.le_of_eq hg.symm)) hb); replace HO_183 := M_ (rb_ (Kd.R_elderB (rU_ HO_183.out) gb542 (Nat.le_of_eq hg.symm)) hb); have BK542 := M_ (hbox); have GW542 := M_ (gw_ HB hg); have GE542 := M_ (gw_ HB hg); replace HB := M_ (bS_ HB hb); clear hb hbox hg; obtain ⟨hcz70_0, hcz70_1, hcz70_2, hfz70_0, hfz70_1, hfz70_2⟩ := bq3_ BK542) | ((with_reducible refine gc_ 16 ?_); refine gM_ (some 193) Tryz.func16 #[.slice (some ad541) t508.length co14, .int .i64 ((rd_T31 t508 x185_3).f1)] ?_; (with_reducible refine (impl_SoundingAt.calls k3 _ _ t508 ((rd_T31 t508 x185_3).f1) t543 t544 _ ?side1 ?side2 A66.out).mono ?_); (case side1 => refine (Kd.R_reads' (e := 31) (base := w.heap.size) (ok := fun k_ => (True ∧ k_ ≠ gb542)) (n := t508.length) (c := co14) ?_).2.2; exact (rU_ ((rm_ (Kd.R_far (p := ⟨gb542, 2, none⟩) (Kd.R_far (p := ⟨gb542, 1, none⟩) (Kd.R_far (p := ⟨gb542, 0, none⟩) (rm_ HO_5.out (fun k_ hk => (⟨hk, hk.2⟩ : _ ∧ k_ ≠ gb542))) (fun _ hk => hk.2) (.int .i64 ((rd_T31 t508 x185_3).f0))) (fun _ hk => hk.2) (.int .i64 ((rd_T31 t508 x185_3).f1))) (fun _ hk => hk.2) (.int .i64 ((rd_T31 t508 x185_3).f2))) (fun _ h_ => h_.1))))); (case side2 => exact (Kd.R_reads' HO_5.out).2.1); rintro e w71 ⟨v545, rfl, ho0, hb⟩; refine ⟨_, rfl, ?_⟩; replace HO_5 := M_ (rb_ (rU_ ((rm_ (Kd.R_far (p := ⟨gb542, 2, none⟩) (Kd.R_far (p := ⟨gb542, 1, none⟩) (Kd.R_far (p := ⟨gb542, 0, none⟩) (rm_ HO_5.out (fun k_ hk => (⟨hk, hk.2⟩ : _ ∧ k_ ≠ gb542))) (fun _ hk => hk.2) (.int .i64 ((rd_T31 t508 x185_3).f0))) (fun _ hk => hk.2) (.int .i64 ((rd_T31 t508 x185_3).f1))) (fun _ hk => hk.2) (.int .i64 ((rd_T31 t508 x185_3).f2))) (fun _ h_ => h_.1)))) hb); replace HO_183 := M_ (rb_ (rU_ ((rm_ (Kd.R_far (p := ⟨gb542, 2, none⟩) (Kd.R_far (p := ⟨gb542, 1, none⟩) (Kd.R_far (p := ⟨gb542, 0, none⟩) (rm_ HO_183.out (fun k_ hk => (⟨hk, hk.2⟩ : _ ∧ k_ ≠ gb542))) (fun _ hk => hk.2) (.int .i64 ((rd_T31 t508 x185_3).f0))) (fun _ hk => hk.2) (.int .i64 ((rd_T31 t508 x185_3).f1))) (fun _ hk => hk.2) (.int .i64 ((rd_T31 t508 x185_3).f2))) (fun _ h_ => h_.1)))) hb); have HO546 := M_ (Kd.R_lower ho0 (bZ_ HB)); replace BK542 := M_ (blk_below (g := gb542) (o := .cells #[.int .i64 ((rd_T31 t508 x185_3).f0), .int .i64 ((rd_T31 t508 x185_3).f1), .int .i64 ((rd_T31 t508 x185_3).f2)] 31 (0, 0)) (by (with_reducible repeat (first | refine kn_ ?_ _ | refine kd_ ?_ | refine ka_ ?_ _)); refine blk_put (cs := #[.int .i64 ((rd_T31 t508 x185_3).f0), .int .i64 ((rd_T31 t508 x185_3).f1), .int .i64 0]) ?_ 2 _ rfl; (with_reducible repeat (first | refine kn_ ?_ _ | refine kd_ ?_ | refine ka_ ?_ _)); refine blk_put (cs := #[.int .i64 ((rd_T31 t508 x185_3).f0), .int .i64 0, .int .i64 0]) ?_ 1 _ rfl; (with_reducible repeat (first | refine kn_ ?_ _ | refine kd_ ?_ | refine ka_ ?_ _)); refine blk_put (cs := #[.int .i64 0, .int .i64 0, .int .i64 0]) ?_ 0 _ rfl; (with_reducible repeat (first | refine kn_ ?_ _ | refine kd_ ?_ | refine ka_ ?_ _)); exact BK542.out) hb); replace HB := M_ (bS_ HB hb); clear hb ho0; obtain ⟨hcz72_0, hcz72_1, hcz72_2, hfz72_0, hfz72_1, hfz72_2⟩ := bq3_ BK542) | ((with_reducible refine gc_ 16 ?_); refine gM_ (some 204) Tryz.func16 #[.slice (some ad541) t508.length co14, .int .i64 (wrap64 ((wrap64 (((rd_T31 t508 x185_3).f1) + ((rd_T31 t508 x185_3).f2))) - 1))] ?_; (with_reducible refine (impl_SoundingAt.calls k3 _ _ t508 (wrap64 ((wrap64 (((rd_T31 t508 x185_3).f1) + ((rd_T31 t508 x185_3).f2))) - 1)) t547 t548 _ ?side1 ?side2 A67.out).mono ?_); (case side1 => exact cU_ (Kd.R_reads' HO_5.out).2.2); (case side2 => exact (Kd.R_reads' HO_5.out).2.1); rintro e w73 ⟨v549, rfl, ho0, hb⟩; refine ⟨_, rfl, ?_⟩; replace HO_5 := M_ (rB_ HO_5 hb); replace HO_183 := M_ (rB_ HO_183 hb); have HO550 := M_ (Kd.R_lower (Kd.R_new' ho0 (rl_ HO546)) (bZ_ HB)); replace HO546 := M_ (re_ HO546 ho0 hb); replace BK542 := M_ (kb_ BK542 hb); replace HB := M_ (bS_ HB hb); clear hb ho0))
               (try simp only [Act.put, la_, lb_, lc_])
               go_cut [247] (fun v247 wc => ∃ (kq : Nat) (x247_67 : Bool), v247 = .bool x247_67 ∧ Aside0 (laws_FnScores.j3 kq l1 t508 t517 t522 t523 t508 (t508.length : Int) x185_3 x247_67 = some r) ∧ Aside0 (kq ≤ k3) ∧ Aside0 (Kd.R k31 31 wc w.heap.size (fun k_ => k_ ≠ gb542) (.slice (some ad541) t508.length co14) t508) ∧ Aside0 (Kd.R k31 31 wc w.heap.size (fun k_ => k_ ≠ gb542) (.slice (some ad541) t508.length co14) t508) ∧ Aside0 (wc.heap[gb542]? = some (.cells #[.int .i64 ((rd_T31 t508 x185_3).f0), .int .i64 ((rd_T31 t508 x185_3).f1), .int .i64 ((rd_T31 t508 x185_3).f2)] 31 (0, 0))) ∧ Aside0 (Below w.heap.size w wc))
               case first => as_aux_lemma =>
                have H := HC68.out;clear HC68
                by_cases c74 : t544 = true
                ·subst c74
                 rw [if_pos rfl] at H
                 replace H := Option.bind_eq_some_iff.mp H;obtain ⟨t551, A750, H⟩ := H;(try dsimp only at H);have A75 := M_ A750;clear A750
                 by_cases c76 : t551 = true
                 ·subst c76
                  rw [if_pos rfl] at H
                  by_cases c77 : t548 = true
                  ·subst c77
                   rw [if_pos rfl] at H
                   replace H := Option.bind_eq_some_iff.mp H;obtain ⟨t552, A780, H⟩ := H;(try dsimp only at H);have A78 := M_ A780;clear A780
                   by_cases c79 : t552 = true
                   ·subst c79
                    rw [if_pos rfl] at H
                    by_cases c80 : ((rd_T31 t508 x185_3).f0) < t522
                    ·rw [if_pos c80] at H
                     exact (laws_FnScores_j3_df hrt_ H).elim
                    ·rw [if_neg c80] at H
                     have c80b0 : decide (((rd_T31 t508 x185_3).f0) < t522) = false := decide_eq_false c80
                     clear c80
                     (first | rw [c80b0] | (simp only [i64_w, i32_w]; rw [c80b0]) | skip)
                     by_cases c84 : ((rd_T31 t508 x185_3).f0) > t523
                     ·rw [if_pos c84] at H
                      exact (laws_FnScores_j3_df hrt_ H).elim
                     ·rw [if_neg c84] at H
                      have c84b0 : decide (t523 < ((rd_T31 t508 x185_3).f0)) = false := decide_eq_false c84
                      clear c84
                      have H' := M_ H
                      clear H;obtain ⟨hcz88_0, hcz88_1, hcz88_2, hfz88_0, hfz88_1, hfz88_2⟩ := bq3_ BK542;obtain ⟨Ao89, co89, eo89⟩ := Kd.R_slice HO546.out;subst eo89
                      go_wp2_with (first | (go_at_call 34; (with_reducible refine (laws_pIn.calls k3 _ _ t543 ((rd_T31 t508 x185_3).f0) true _ ?side1 ?side2 A75.out).mono ?_); (case side1 => exact cU_ (Kd.R_reads' HO546.out).2.2); (case side2 => exact (Kd.R_reads' HO546.out).2.1); rintro e w' ⟨rfl, ⟨nd, rfl⟩⟩; obtain ⟨Ao90, co90, eo90⟩ := Kd.R_slice HO550.out; subst eo90) | (go_at_call 34; (with_reducible refine (laws_pIn.calls k3 _ _ t547 ((rd_T31 t508 x185_3).f0) true _ ?side1 ?side2 A78.out).mono ?_); (case side1 => exact cU_ (Kd.R_reads' HO550.out).2.2); (case side2 => exact (Kd.R_reads' HO550.out).2.1); rintro e w' ⟨rfl, ⟨nd, rfl⟩⟩))
                      go_meet
                      case rel => exact ⟨_, (decide ((wrap64 (((rd_T31 t508 x185_3).f1) + ((rd_T31 t508 x185_3).f2))) > t517)), eD_, H', ⟨by have := HJ11.out; have := HJ41.out; have := HK3.out; first | omega | exact Nat.le_refl _⟩, ⟨by (with_reducible repeat (first | apply ra_ | apply rn_ | apply rd_)); exact rm_ HO_5.out (fun _ hk => hk.2)⟩, ⟨by (with_reducible repeat (first | apply ra_ | apply rn_ | apply rd_)); exact rm_ HO_183.out (fun _ hk => hk.2)⟩, ⟨kU_ BK542⟩, ⟨bU_ HB⟩⟩
                   ·replace c79 := Bool.eq_false_iff.mpr c79
                    subst c79
                    have H1 : (laws_FnScores.j3 k3 l1 t508 t517 t522 t523 t508 (t508.length : Int) x185_3 true) = some r := by rw [if_neg (show ¬ (false = true) by decide)] at H; exact H
                    exact (laws_FnScores_j3_df hrt_ H1).elim
                  ·replace c77 := Bool.eq_false_iff.mpr c77
                   subst c77
                   have H1 : (laws_FnScores.j3 k3 l1 t508 t517 t522 t523 t508 (t508.length : Int) x185_3 true) = some r := by rw [if_neg (show ¬ (false = true) by decide)] at H; exact H
                   exact (laws_FnScores_j3_df hrt_ H1).elim
                 ·replace c76 := Bool.eq_false_iff.mpr c76
                  subst c76
                  have H1 : (laws_FnScores.j3 k3 l1 t508 t517 t522 t523 t508 (t508.length : Int) x185_3 true) = some r := by rw [if_neg (show ¬ (false = true) by decide)] at H; exact H
                  exact (laws_FnScores_j3_df hrt_ H1).elim
                ·replace c74 := Bool.eq_false_iff.mpr c74
                 subst c74
                 have H1 : (laws_FnScores.j3 k3 l1 t508 t517 t522 t523 t508 (t508.length : Int) x185_3 true) = some r := by rw [if_neg (show ¬ (false = true) by decide)] at H; exact H
                 exact (laws_FnScores_j3_df hrt_ H1).elim
               case rest => as_aux_lemma =>
                clear HC68;obtain ⟨kq, x247_67, rfl, HA, HJ67, HO_5, HO_183, BK542, HB⟩ := hcut
                cases kq with
                | zero => exact absurd HA.out (by simp [laws_FnScores.j3])
                | succ kj67 =>
                 have H := HA.out;clear HA;simp only [laws_FnScores.j3] at H
                 by_cases c98 : x247_67 = true
                 ·subst c98
                  have H1 : (some false) = some r := by rw [if_pos rfl] at H; exact H
                  exact (df_ hrt_ H1).elim
                 ·replace c98 := Bool.eq_false_iff.mpr c98
                  subst c98
                  rw [if_neg (show ¬ (false = true) by decide)] at H
                  have H' := M_ H
                  clear H
                  go_wp2
                  go_roundg kj67
                  case measure => have := HJ11.out; have := HJ41.out; have := HK3.out; have := HJ67.out; omega
                  case rel => exact ⟨(wrap64 (x185_3 + 1)), eD_, H', ⟨by have := HJ11.out; have := HJ41.out; have := HK3.out; have := HJ67.out; omega⟩, ⟨by (with_reducible repeat (first | apply ra_ | apply rn_ | apply rd_)); exact rm_ HO_5.out (fun _ hk => trivial)⟩, ⟨by (with_reducible repeat (first | apply ra_ | apply rn_ | apply rd_)); exact rm_ HO_183.out (fun _ hk => trivial)⟩, ⟨bU_ HB⟩⟩
              ·rw [if_neg c65] at H
               exact absurd H (by simp)
             ·rw [if_neg c64] at H
              exact absurd H (by simp)
            ·rw [if_neg c63] at H
             have c63b0 : decide (x185_3 < (t508.length : Int)) = false := decide_eq_false c63
             clear c63
             have H' := M_ H
             clear H
             go_wp2
             go_meet
             case rel => exact ⟨_, H', ⟨by have := HJ11.out; have := HJ41.out; have := HK3.out; first | omega | exact Nat.le_refl _⟩, ⟨bU_ HB⟩⟩
      ·replace c38 := Bool.eq_false_iff.mpr c38
       subst c38
       rw [if_neg (show ¬ (false = true) by decide)] at H
       have H' := M_ H
       clear H
       go_wp2
       go_meet
       case rel => exact ⟨_, H', ⟨by have := HJ11.out; first | omega | exact Nat.le_refl _⟩, ⟨bU_ HB⟩⟩
     case rest => as_aux_lemma =>
      clear HC37;obtain ⟨kq, HA, HJ36, HB⟩ := hcut
      cases kq with
      | zero => exact absurd HA.out (by simp [laws_FnScores.j4])
      | succ kj36 =>
       have H := HA.out;clear HA;simp only [laws_FnScores.j4] at H;replace H := Option.bind_eq_some_iff.mp H;obtain ⟨⟨t553, t554⟩, A990, H⟩ := H;(try dsimp only at H);have A99 := M_ A990;clear A990;replace H := Option.bind_eq_some_iff.mp H;obtain ⟨⟨t557, t558⟩, A1000, H⟩ := H;(try dsimp only at H);have A100 := M_ A1000;clear A1000;replace H := Option.bind_eq_some_iff.mp H;obtain ⟨⟨t561, t562⟩, A1010, H⟩ := H;(try dsimp only at H);have A101 := M_ A1010;clear A1010;replace H := Option.bind_eq_some_iff.mp H;obtain ⟨⟨t565, t566⟩, A1020, H⟩ := H;(try dsimp only at H);have A102 := M_ A1020;clear A1020;replace H := Option.bind_eq_some_iff.mp H;obtain ⟨⟨t569, t570⟩, A1030, H⟩ := H;(try dsimp only at H);have A103 := M_ A1030;clear A1030;replace H := Option.bind_eq_some_iff.mp H;obtain ⟨⟨t573, t574⟩, A1040, H⟩ := H;(try dsimp only at H);have A104 := M_ A1040;clear A1040;have HC105 := M_ H;clear H
       go_upto_region 32 with (first | ((with_reducible refine gc_ 35 ?_); refine gM_ (some 251) Tryz.func35 #[.slice A1 l1.length c1] ?_; (with_reducible refine (spec_DrawTransposeScore.calls kj36 _ _ l1 t553 t554 _ ?side1 ?side2 A99.out).mono ?_); (case side1 => exact cU_ (Kd.C_below HR1.out HB.out)); (case side2 => exact HC1.out); rintro e w106 ⟨v555, rfl, ho0, hb⟩; refine ⟨_, rfl, ?_⟩; have HO556 := M_ (Kd.R_lower ho0 (bZ_ HB)); replace HB := M_ (bS_ HB hb); clear hb ho0; obtain ⟨Ao107, co107, eo107⟩ := Kd.R_slice HO556.out; subst eo107) | ((with_reducible refine gc_ 36 ?_); refine gM_ (some 257) Tryz.func36 #[.slice Ao107 t553.length co107, .int .i64 t554] ?_; (with_reducible refine (impl_TransposeScore.calls kj36 _ _ t553 t554 t557 t558 _ ?side1 ?side2 A100.out).mono ?_); (case side1 => exact cU_ (Kd.R_reads' HO556.out).2.2); (case side2 => exact (Kd.R_reads' HO556.out).2.1); rintro e w108 ⟨v559, rfl, ho0, hb⟩; refine ⟨_, rfl, ?_⟩; have HO560 := M_ (Kd.R_lower (Kd.R_new' ho0 (rl_ HO556)) (bZ_ HB)); replace HO556 := M_ (re_ HO556 ho0 hb); replace HB := M_ (bS_ HB hb); clear hb ho0) | ((with_reducible refine gc_ 37 ?_); refine gM_ (some 263) Tryz.func37 #[.slice Ao107 t553.length co107, .int .i64 t554] ?_; (with_reducible refine (spec_TransposeScore.calls kj36 _ _ t553 t554 t561 t562 _ ?side1 ?side2 A101.out).mono ?_); (case side1 => exact cU_ (Kd.R_reads' HO556.out).2.2); (case side2 => exact (Kd.R_reads' HO556.out).2.1); rintro e w109 ⟨v563, rfl, ho0, hb⟩; refine ⟨_, rfl, ?_⟩; have HO564 := M_ (Kd.R_lower (Kd.R_new' (Kd.R_new' ho0 (rl_ HO556)) (rl_ HO560)) (bZ_ HB)); replace HO556 := M_ (re_ HO556 ho0 hb); replace HO560 := M_ (re_ HO560 ho0 hb); replace HB := M_ (bS_ HB hb); clear hb ho0) | ((with_reducible refine gc_ 38 ?_); refine gM_ (some 268) Tryz.func38 #[.slice A1 l1.length c1] ?_; (with_reducible refine (spec_DrawMoveScore.calls kj36 _ _ l1 t565 t566 _ ?side1 ?side2 A102.out).mono ?_); (case side1 => exact cU_ (Kd.C_below HR1.out HB.out)); (case side2 => exact HC1.out); rintro e w110 ⟨v567, rfl, ho0, hb⟩; refine ⟨_, rfl, ?_⟩; have HO568 := M_ (Kd.R_lower (Kd.R_new' (Kd.R_new' (Kd.R_new' ho0 (rl_ HO556)) (rl_ HO560)) (rl_ HO564)) (bZ_ HB)); replace HO556 := M_ (re_ HO556 ho0 hb); replace HO560 := M_ (re_ HO560 ho0 hb); replace HO564 := M_ (re_ HO564 ho0 hb); replace HB := M_ (bS_ HB hb); clear hb ho0; obtain ⟨Ao111, co111, eo111⟩ := Kd.R_slice HO568.out; subst eo111) | ((with_reducible refine gc_ 39 ?_); refine gM_ (some 274) Tryz.func39 #[.slice Ao111 t565.length co111, .int .i64 t566] ?_; (with_reducible refine (impl_MoveScore.calls kj36 _ _ t565 t566 t569 t570 _ ?side1 ?side2 A103.out).mono ?_); (case side1 => exact cU_ (Kd.R_reads' HO568.out).2.2); (case side2 => exact (Kd.R_reads' HO568.out).2.1); rintro e w112 ⟨v571, rfl, ho0, hb⟩; refine ⟨_, rfl, ?_⟩; have HO572 := M_ (Kd.R_lower (Kd.R_new' (Kd.R_new' (Kd.R_new' (Kd.R_new' ho0 (rl_ HO556)) (rl_ HO560)) (rl_ HO564)) (rl_ HO568)) (bZ_ HB)); replace HO556 := M_ (re_ HO556 ho0 hb); replace HO560 := M_ (re_ HO560 ho0 hb); replace HO564 := M_ (re_ HO564 ho0 hb); replace HO568 := M_ (re_ HO568 ho0 hb); replace HB := M_ (bS_ HB hb); clear hb ho0) | ((with_reducible refine gc_ 40 ?_); refine gM_ (some 280) Tryz.func40 #[.slice Ao111 t565.length co111, .int .i64 t566] ?_; (with_reducible refine (spec_MoveScore.calls kj36 _ _ t565 t566 t573 t574 _ ?side1 ?side2 A104.out).mono ?_); (case side1 => exact cU_ (Kd.R_reads' HO568.out).2.2); (case side2 => exact (Kd.R_reads' HO568.out).2.1); rintro e w113 ⟨v575, rfl, ho0, hb⟩; refine ⟨_, rfl, ?_⟩; have HO576 := M_ (Kd.R_lower (Kd.R_new' (Kd.R_new' (Kd.R_new' (Kd.R_new' (Kd.R_new' ho0 (rl_ HO556)) (rl_ HO560)) (rl_ HO564)) (rl_ HO568)) (rl_ HO572)) (bZ_ HB)); replace HO556 := M_ (re_ HO556 ho0 hb); replace HO560 := M_ (re_ HO560 ho0 hb); replace HO564 := M_ (re_ HO564 ho0 hb); replace HO568 := M_ (re_ HO568 ho0 hb); replace HO572 := M_ (re_ HO572 ho0 hb); replace HB := M_ (bS_ HB hb); clear hb ho0))
       (try simp only [Act.put, la_, lb_, lc_])
       go_cut [302] (fun v302 wc => ∃ (kq : Nat) (x302_104 : Bool), v302 = .bool x302_104 ∧ Aside0 (laws_FnScores.j5 kq t553 t554 t557 t558 t565 t566 t569 t570 x302_104 = some r) ∧ Aside0 (kq ≤ kj36) ∧ Aside0 (Kd.R k31 31 wc w.heap.size (fun k_ => some k_ ≠ (v559 : Value).ownBlock ∧ some k_ ≠ ((.slice Ao111 t565.length co111) : Value).ownBlock ∧ some k_ ≠ (v571 : Value).ownBlock) (.slice Ao107 t553.length co107) t553) ∧ Aside0 (Kd.R k31 31 wc w.heap.size (fun k_ => some k_ ≠ ((.slice Ao107 t553.length co107) : Value).ownBlock ∧ some k_ ≠ ((.slice Ao111 t565.length co111) : Value).ownBlock ∧ some k_ ≠ (v571 : Value).ownBlock) v559 t557) ∧ Aside0 (Kd.R k31 31 wc w.heap.size (fun k_ => some k_ ≠ ((.slice Ao107 t553.length co107) : Value).ownBlock ∧ some k_ ≠ (v559 : Value).ownBlock ∧ some k_ ≠ (v571 : Value).ownBlock) (.slice Ao111 t565.length co111) t565) ∧ Aside0 (Kd.R k31 31 wc w.heap.size (fun k_ => some k_ ≠ ((.slice Ao107 t553.length co107) : Value).ownBlock ∧ some k_ ≠ (v559 : Value).ownBlock ∧ some k_ ≠ ((.slice Ao111 t565.length co111) : Value).ownBlock) v571 t569) ∧ Aside0 (Below w.heap.size w wc))
       case first => as_aux_lemma =>
        have H := HC105.out;clear HC105
        by_cases c114 : (t558 != t562) = true
        ·rw [if_pos c114] at H
         exact (laws_FnScores_j5_df hrt_ H).elim
        ·rw [if_neg c114] at H
         have c114b0 : (t558 != t562) = false := by simpa using c114
         (try (have c114b1 : decide (t558 = t562) = true := by simpa using c114))
         (try (have c114b2 : (t558 == t562) = true := by simpa using c114))
         clear c114
         (first | rw [c114b0] | (simp only [i64_w, i32_w]; rw [c114b0]) | skip)
         replace H := Option.bind_eq_some_iff.mp H;obtain ⟨t577, A1150, H⟩ := H;(try dsimp only at H);have A115 := M_ A1150;clear A1150
         by_cases c116 : t577 = true
         ·subst c116
          rw [if_pos rfl] at H
          by_cases c117 : (t570 != t574) = true
          ·rw [if_pos c117] at H
           exact (laws_FnScores_j5_df hrt_ H).elim
          ·rw [if_neg c117] at H
           have c117b0 : (t570 != t574) = false := by simpa using c117
           (try (have c117b1 : decide (t570 = t574) = true := by simpa using c117))
           (try (have c117b2 : (t570 == t574) = true := by simpa using c117))
           clear c117;replace H := Option.bind_eq_some_iff.mp H;obtain ⟨t578, A1200, H⟩ := H;(try dsimp only at H);have A120 := M_ A1200;clear A1200
           have H' := M_ H
           clear H;obtain ⟨Ao121, co121, eo121⟩ := Kd.R_slice HO560.out;subst eo121;obtain ⟨Ao122, co122, eo122⟩ := Kd.R_slice HO564.out;subst eo122
           go_wp2_with (first | (go_at_call 9; (with_reducible refine (laws_pSameNotes.calls kj36 _ _ t557 _ _ t561 true _ ?side1 ?side2 ?side3 ?side4 A115.out).mono ?_); (case side1 => exact cU_ (Kd.R_reads' HO560.out).2.2); (case side2 => exact (Kd.R_reads' HO560.out).2.1); (case side3 => exact cU_ (Kd.R_reads' HO564.out).2.2); (case side4 => exact (Kd.R_reads' HO564.out).2.1); rintro e w' ⟨rfl, ⟨nd, rfl⟩⟩; obtain ⟨Ao123, co123, eo123⟩ := Kd.R_slice HO572.out; subst eo123; obtain ⟨Ao124, co124, eo124⟩ := Kd.R_slice HO576.out; subst eo124) | (go_at_call 9; (with_reducible refine (laws_pSameNotes.calls kj36 _ _ t569 _ _ t573 t578 _ ?side1 ?side2 ?side3 ?side4 A120.out).mono ?_); (case side1 => exact cU_ (Kd.R_reads' HO572.out).2.2); (case side2 => exact (Kd.R_reads' HO572.out).2.1); (case side3 => exact cU_ (Kd.R_reads' HO576.out).2.2); (case side4 => exact (Kd.R_reads' HO576.out).2.1); rintro e w' ⟨rfl, ⟨nd, rfl⟩⟩))
           go_meet
           case rel => exact ⟨_, (!t578), eD_, H', ⟨by have := HJ11.out; have := HJ36.out; first | omega | exact Nat.le_refl _⟩, ⟨by (with_reducible repeat (first | apply ra_ | apply rn_ | apply rd_)); exact rm_ HO556.out (fun _ hk => ⟨hk.1.1.1.1.2, ⟨hk.1.1.2, hk.1.2⟩⟩)⟩, ⟨by (with_reducible repeat (first | apply ra_ | apply rn_ | apply rd_)); exact rm_ HO560.out (fun _ hk => ⟨hk.1.1.1.1.2, ⟨hk.1.1.2, hk.1.2⟩⟩)⟩, ⟨by (with_reducible repeat (first | apply ra_ | apply rn_ | apply rd_)); exact rm_ HO568.out (fun _ hk => ⟨hk.1.1.1.1.2, ⟨hk.1.1.1.2, hk.1.2⟩⟩)⟩, ⟨by (with_reducible repeat (first | apply ra_ | apply rn_ | apply rd_)); exact rm_ HO572.out (fun _ hk => ⟨hk.1.1.1.1.2, ⟨hk.1.1.1.2, hk.1.2⟩⟩)⟩, ⟨bU_ HB⟩⟩
         ·replace c116 := Bool.eq_false_iff.mpr c116
          subst c116
          have H1 : (laws_FnScores.j5 kj36 t553 t554 t557 t558 t565 t566 t569 t570 true) = some r := by rw [if_neg (show ¬ (false = true) by decide)] at H; exact H
          exact (laws_FnScores_j5_df hrt_ H1).elim
       case rest => as_aux_lemma =>
        clear HC105;obtain ⟨kq, x302_104, rfl, HA, HJ104, HO_32, HO_34, HO_38, HO_40, HB⟩ := hcut
        cases kq with
        | zero => exact absurd HA.out (by simp [laws_FnScores.j5])
        | succ kj104 =>
         have H := HA.out;clear HA;simp only [laws_FnScores.j5] at H
         by_cases c127 : x302_104 = true
         ·subst c127
          have H1 : (some false) = some r := by rw [if_pos rfl] at H; exact H
          exact (df_ hrt_ H1).elim
         ·replace c127 := Bool.eq_false_iff.mpr c127
          subst c127
          rw [if_neg (show ¬ (false = true) by decide)] at H
          have HC128 := M_ H;clear H
          go_upto_if 303 with (fail)
          go_cut [] (fun wc => ∃ (kq : Nat), Aside0 (laws_FnScores.j7 kq t565 t566 t569 t570 = some r) ∧ Aside0 (kq ≤ kj104) ∧ Aside0 (Kd.R k31 31 wc w.heap.size (fun k_ => some k_ ≠ (v571 : Value).ownBlock) (.slice Ao111 t565.length co111) t565) ∧ Aside0 (Kd.R k31 31 wc w.heap.size (fun k_ => some k_ ≠ ((.slice Ao111 t565.length co111) : Value).ownBlock) v571 t569) ∧ Aside0 (Below w.heap.size w wc))
          case first => as_aux_lemma =>
           have H := HC128.out;clear HC128
           by_cases c129 : t558 = true
           ·subst c129
            rw [if_pos rfl] at H
            replace H := Option.bind_eq_some_iff.mp H;obtain ⟨⟨t579, t580⟩, A1300, H⟩ := H;(try dsimp only at H);have A130 := M_ A1300;clear A1300;have HC131 := M_ H;clear H;obtain ⟨Ao132, co132, eo132⟩ := Kd.R_slice HO_34.out;subst eo132
            go_upto_region 36 with (first | ((with_reducible refine gc_ 36 ?_); refine gM_ (some 308) Tryz.func36 #[.slice Ao132 t557.length co132, .int .i64 (wrap64 (-t554))] ?_; (with_reducible refine (impl_TransposeScore.calls kj104 _ _ t557 (wrap64 (-t554)) t579 t580 _ ?side1 ?side2 A130.out).mono ?_); (case side1 => exact cU_ (Kd.R_reads' HO_34.out).2.2); (case side2 => exact (Kd.R_reads' HO_34.out).2.1); rintro e w133 ⟨v581, rfl, ho0, hb⟩; refine ⟨_, rfl, ?_⟩; have HO582 := M_ (Kd.R_lower (Kd.R_new' (Kd.R_new' (Kd.R_new' (Kd.R_new' ho0 (rl_ HO_32)) (rl_ HO_34)) (rl_ HO_38)) (rl_ HO_40)) (bZ_ HB)); replace HO_32 := M_ (re_ HO_32 ho0 hb); replace HO_34 := M_ (re_ HO_34 ho0 hb); replace HO_38 := M_ (re_ HO_38 ho0 hb); replace HO_40 := M_ (re_ HO_40 ho0 hb); replace HB := M_ (bS_ HB hb); clear hb ho0))
            (try simp only [Act.put, la_, lb_, lc_])
            go_cut [318] (fun v318 wc => ∃ (kq : Nat) (x318_130 : Bool), v318 = .bool x318_130 ∧ Aside0 (laws_FnScores.j6 kq t565 t566 t569 t570 x318_130 = some r) ∧ Aside0 (kq ≤ kj104) ∧ Aside0 (Kd.R k31 31 wc w.heap.size (fun k_ => some k_ ≠ (v571 : Value).ownBlock) (.slice Ao111 t565.length co111) t565) ∧ Aside0 (Kd.R k31 31 wc w.heap.size (fun k_ => some k_ ≠ ((.slice Ao111 t565.length co111) : Value).ownBlock) v571 t569) ∧ Aside0 (Below w.heap.size w wc))
            case first => as_aux_lemma =>
             have H := HC131.out;clear HC131
             by_cases c134 : t580 = true
             ·subst c134
              rw [if_pos rfl] at H
              replace H := Option.bind_eq_some_iff.mp H;obtain ⟨t583, A1350, H⟩ := H;(try dsimp only at H);have A135 := M_ A1350;clear A1350
              have H' := M_ H
              clear H;obtain ⟨Ao136, co136, eo136⟩ := Kd.R_slice HO582.out;subst eo136
              go_wp2_with (first | (go_at_call 9; (with_reducible refine (laws_pSameNotes.calls kj104 _ _ t579 _ _ t553 t583 _ ?side1 ?side2 ?side3 ?side4 A135.out).mono ?_); (case side1 => exact cU_ (Kd.R_reads' HO582.out).2.2); (case side2 => exact (Kd.R_reads' HO582.out).2.1); (case side3 => exact cU_ (Kd.R_reads' HO_32.out).2.2); (case side4 => exact (Kd.R_reads' HO_32.out).2.1); rintro e w' ⟨rfl, ⟨nd, rfl⟩⟩))
              go_meet
              case rel => exact ⟨_, (!t583), eD_, H', ⟨by have := HJ11.out; have := HJ36.out; have := HJ104.out; first | omega | exact Nat.le_refl _⟩, ⟨by (with_reducible repeat (first | apply ra_ | apply rn_ | apply rd_)); exact rm_ HO_38.out (fun _ hk => hk.1.2.2)⟩, ⟨by (with_reducible repeat (first | apply ra_ | apply rn_ | apply rd_)); exact rm_ HO_40.out (fun _ hk => hk.1.2.2)⟩, ⟨bU_ HB⟩⟩
             ·replace c134 := Bool.eq_false_iff.mpr c134
              subst c134
              have H1 : (laws_FnScores.j6 kj104 t565 t566 t569 t570 true) = some r := by rw [if_neg (show ¬ (false = true) by decide)] at H; exact H
              exact (laws_FnScores_j6_df hrt_ H1).elim
            case rest => as_aux_lemma =>
             clear HC131;obtain ⟨kq, x318_130, rfl, HA, HJ130, HO_38, HO_40, HB⟩ := hcut
             cases kq with
             | zero => exact absurd HA.out (by simp [laws_FnScores.j6])
             | succ kj130 =>
              have H := HA.out;clear HA;simp only [laws_FnScores.j6] at H
              by_cases c137 : x318_130 = true
              ·subst c137
               have H1 : (some false) = some r := by rw [if_pos rfl] at H; exact H
               exact (df_ hrt_ H1).elim
              ·replace c137 := Bool.eq_false_iff.mpr c137
               subst c137
               rw [if_neg (show ¬ (false = true) by decide)] at H
               have H' := M_ H
               clear H
               go_wp2
               go_meet
               case rel => exact ⟨_, H', ⟨by have := HJ11.out; have := HJ36.out; have := HJ104.out; have := HJ130.out; first | omega | exact Nat.le_refl _⟩, ⟨rU_ HO_38.out⟩, ⟨rU_ HO_40.out⟩, ⟨bU_ HB⟩⟩
           ·replace c129 := Bool.eq_false_iff.mpr c129
            subst c129
            rw [if_neg (show ¬ (false = true) by decide)] at H
            have H' := M_ H
            clear H
            go_wp2
            go_meet
            case rel => exact ⟨_, H', ⟨by have := HJ11.out; have := HJ36.out; have := HJ104.out; first | omega | exact Nat.le_refl _⟩, ⟨by (with_reducible repeat (first | apply ra_ | apply rn_ | apply rd_)); exact rm_ HO_38.out (fun _ hk => hk.2.2)⟩, ⟨by (with_reducible repeat (first | apply ra_ | apply rn_ | apply rd_)); exact rm_ HO_40.out (fun _ hk => hk.2.2)⟩, ⟨bU_ HB⟩⟩
          case rest => as_aux_lemma =>
           clear HC128;obtain ⟨kq, HA, HJ127, HO_38, HO_40, HB⟩ := hcut
           cases kq with
           | zero => exact absurd HA.out (by simp [laws_FnScores.j7])
           | succ kj127 =>
            have H := HA.out;clear HA;simp only [laws_FnScores.j7] at H
            by_cases c138 : t570 = true
            ·subst c138
             rw [if_pos rfl] at H
             replace H := Option.bind_eq_some_iff.mp H;obtain ⟨⟨t584, t585⟩, A1390, H⟩ := H;(try dsimp only at H);have A139 := M_ A1390;clear A1390;have HC140 := M_ H;clear H;obtain ⟨Ao141, co141, eo141⟩ := Kd.R_slice HO_40.out;subst eo141
             go_upto_region 40 with (first | ((with_reducible refine gc_ 39 ?_); refine gM_ (some 324) Tryz.func39 #[.slice Ao141 t569.length co141, .int .i64 (wrap64 (-t566))] ?_; (with_reducible refine (impl_MoveScore.calls kj127 _ _ t569 (wrap64 (-t566)) t584 t585 _ ?side1 ?side2 A139.out).mono ?_); (case side1 => exact cU_ (Kd.R_reads' HO_40.out).2.2); (case side2 => exact (Kd.R_reads' HO_40.out).2.1); rintro e w142 ⟨v586, rfl, ho0, hb⟩; refine ⟨_, rfl, ?_⟩; have HO587 := M_ (Kd.R_lower (Kd.R_new' (Kd.R_new' ho0 (rl_ HO_38)) (rl_ HO_40)) (bZ_ HB)); replace HO_38 := M_ (re_ HO_38 ho0 hb); replace HO_40 := M_ (re_ HO_40 ho0 hb); replace HB := M_ (bS_ HB hb); clear hb ho0))
             (try simp only [Act.put, la_, lb_, lc_])
             go_cut [334] (fun v334 wc => ∃ (kq : Nat) (x334_139 : Bool), v334 = .bool x334_139 ∧ Aside0 (laws_FnScores.j8 kq x334_139 = some r) ∧ Aside0 (kq ≤ kj127) ∧ Aside0 (Below w.heap.size w wc))
             case first => as_aux_lemma =>
              have H := HC140.out;clear HC140
              by_cases c143 : t585 = true
              ·subst c143
               rw [if_pos rfl] at H
               replace H := Option.bind_eq_some_iff.mp H;obtain ⟨t588, A1440, H⟩ := H;replace H : (laws_FnScores.j8 kj127 (!t588)) = some r := H;have A144 := M_ A1440;clear A1440
               have H' := M_ H
               clear H;obtain ⟨Ao145, co145, eo145⟩ := Kd.R_slice HO587.out;subst eo145
               go_wp2_with (first | (go_at_call 9; (with_reducible refine (laws_pSameNotes.calls kj127 _ _ t584 _ _ t565 t588 _ ?side1 ?side2 ?side3 ?side4 A144.out).mono ?_); (case side1 => exact cU_ (Kd.R_reads' HO587.out).2.2); (case side2 => exact (Kd.R_reads' HO587.out).2.1); (case side3 => exact cU_ (Kd.R_reads' HO_38.out).2.2); (case side4 => exact (Kd.R_reads' HO_38.out).2.1); rintro e w' ⟨rfl, ⟨nd, rfl⟩⟩))
               go_meet
               case rel => exact ⟨_, (!t588), eD_, H', ⟨by have := HJ11.out; have := HJ36.out; have := HJ104.out; have := HJ127.out; first | omega | exact Nat.le_refl _⟩, ⟨bU_ HB⟩⟩
              ·replace c143 := Bool.eq_false_iff.mpr c143
               subst c143
               have H1 : (laws_FnScores.j8 kj127 true) = some r := by rw [if_neg (show ¬ (false = true) by decide)] at H; exact H
               exact (laws_FnScores_j8_df hrt_ H1).elim
             case rest => as_aux_lemma =>
              clear HC140;obtain ⟨kq, x334_139, rfl, HA, HJ139, HB⟩ := hcut
              cases kq with
              | zero => exact absurd HA.out (by simp [laws_FnScores.j8])
              | succ kj139 =>
               have H := HA.out;clear HA;simp only [laws_FnScores.j8] at H
               by_cases c146 : x334_139 = true
               ·subst c146
                have H1 : (some false) = some r := by rw [if_pos rfl] at H; exact H
                exact (df_ hrt_ H1).elim
               ·replace c146 := Bool.eq_false_iff.mpr c146
                subst c146
                rw [if_neg (show ¬ (false = true) by decide)] at H
                obtain rfl := Option.some.inj H
                go_wp2
                go_ret
                exact ⟨eR_, bU_ HB⟩
            ·replace c138 := Bool.eq_false_iff.mpr c138
             subst c138
             rw [if_neg (show ¬ (false = true) by decide)] at H
             obtain rfl := Option.some.inj H
             go_wp2
             go_ret
             exact ⟨eR_, bU_ HB⟩
theorem laws_FnScores.walk (P : laws_FnScores.Pure) (a0 : Option Addr) (len0 cap0 : Nat) (z0 : List Int) (a1 : Option Addr) (len1 cap1 : Nat) (z1 : List Int) (w : World) (w0 : (a0 = none ∧ len0 = 0 ∧ cap0 = 0 ∧ z0 = []) ∨ ∃ x, a0 = some x ∧ len0 ≤ cap0 ∧ cap0 ≤ maxLen ∧ z0.length = cap0 ∧ (∀ i, i < z0.length → w.cell? (x.add i) = some (.int .u8 (z0.getD i 0))) ∧ ∀ n ∈ z0, (Lit.int .u8 n).wf = true) (y0 : len0 * 1 ≤ 140737488351232) (w1 : (a1 = none ∧ len1 = 0 ∧ cap1 = 0 ∧ z1 = []) ∨ ∃ x, a1 = some x ∧ len1 ≤ cap1 ∧ cap1 ≤ maxLen ∧ z1.length = cap1 ∧ (∀ i, i < z1.length → w.cell? (x.add i) = some (.int .u8 (z1.getD i 0))) ∧ ∀ n ∈ z1, (Lit.int .u8 n).wf = true) (y1 : len1 * 1 ≤ 140737488351232) (hM : ∃ m, w.cell? ⟨0, 0, none⟩ = some (.int .i64 m)) (hT : Lib.TabIs Tryz.prog w "internal/strconv.uint64pow10" .u64 Lib.pow10Tab) :
  Calls Tryz.prog 4 #[.slice a0 len0 cap0, .slice a1 len1 cap1] w fun e w' => e = .returned (.bool true) ∧ Below w.heap.size w w' := by
 obtain ⟨l0, rfl, hr0, hm0, hw0, hc0⟩ := ReadsInt.ofRowC w0;obtain ⟨l1, rfl, hr1, hm1, hw1, hc1⟩ := ReadsInt.ofRowC w1;obtain ⟨k, h⟩ := P l0 l1 hm0 y0 hw0 hm1 y1 hw1;refine (laws_FnScores.calls k _ _ l0 _ _ l1 true w rfl (Kd.C_of_reads (d := (0 : Int)) (h1 := fun _ => rfl) hr0) hc0 (Kd.C_of_reads (d := (0 : Int)) (h1 := fun _ => rfl) hr1) hc1 hM hT h).mono ?_;rintro e w' ⟨rfl, hd⟩;exact ⟨rfl, hd⟩

end Go.Proofs.YtfpfjnmjekjnhaaGreatDoor.PFnScores
