-- by wip/xprint.py, over the kit's printer
import Derived.Test.YtfpfjnmjekjnhaaGreatDoorPFnNotesx0
import Derived.Test.YtfpfjnmjekjnhaaGreatDoorPFnNotesx1
import Derived.Test.YtfpfjnmjekjnhaaGreatDoorPFnNotesx2
import Derived.Test.YtfpfjnmjekjnhaaGreatDoorPFnNotesx7
import Derived.Test.YtfpfjnmjekjnhaaGreatDoorPFnNotesx8
import Derived.Test.YtfpfjnmjekjnhaaGreatDoorPFnNotesx9
import Derived.Test.YtfpfjnmjekjnhaaGreatDoorPFnNotesx10
import Derived.Test.YtfpfjnmjekjnhaaGreatDoorPFnNotesx11
import Derived.Test.YtfpfjnmjekjnhaaGreatDoorPFnNotesx12
import Derived.Test.YtfpfjnmjekjnhaaGreatDoorPFnNotesx13
import Derived.Test.YtfpfjnmjekjnhaaGreatDoorPFnNotesx15
import Derived.Test.YtfpfjnmjekjnhaaGreatDoorPFnNotesx16
import Derived.Test.YtfpfjnmjekjnhaaGreatDoorPFnNotesx17
import Derived.Test.YtfpfjnmjekjnhaaGreatDoorPFnNotesx18
namespace Go.Proofs.YtfpfjnmjekjnhaaGreatDoor.PFnNotes
open Go.RowKit Go.Proofs.YtfpfjnmjekjnhaaGreatDoorW.PrintWords Go.Proofs.YtfpfjnmjekjnhaaGreatDoorW.PrintLast Go.Proofs.YtfpfjnmjekjnhaaGreatDoorW.PrintMore
attribute [local go_sem] max2_int min2_int max_two min_two max_three min_three max_four min_four   -- for this text's walks alone
set_option linter.unusedVariables false
set_option linter.unusedSimpArgs false

attribute [local go_sem high] eqA31
set_option maxHeartbeats 8000000 in
set_option maxRecDepth 100000 in
theorem laws_FnNotes.calls (k : Nat) (A0 : Option Addr) (c0 : Nat) (l0 : List Int) (A1 : Option Addr) (c1 : Nat) (l1 : List Int) (r : Bool) (w : World) (hrt_ : r = true) (hr0 : Kd.C (Kd.int .u8) w A0 l0.length l0) (hc0 : l0.length ≤ c0) (hr1 : Kd.C (Kd.int .u8) w A1 l1.length l1) (hc1 : l1.length ≤ c1) (hM : ∃ m, w.cell? ⟨0, 0, none⟩ = some (.int .i64 m)) (h : laws_FnNotes.f k l0 l1 = some r) :
  Calls Tryz.prog 3 #[.slice A0 l0.length c0, .slice A1 l1.length c1] w fun e w' => e = .returned (.bool r) ∧ Below w.heap.size w w' := by
 have hu31 := Tryz.underlying31;have HR0 := M_ hr0;have HC0 := M_ hc0;clear hr0 hc0;have HR1 := M_ hr1;have HC1 := M_ hc1;clear hr1 hc1;have HM := M_ hM;clear hM;have HB := M_ (Below.refl w.heap.size w)
 have H : ((laws_big.f l0 l1).bind fun t656 => (if t656 = true then (some true) else ((spec_DrawSortNotes.f k l0).bind fun t657 => ((impl_SortNotes.f k t657).bind fun bt660 => ((spec_SortNotes.f k t657).bind fun bt664 => (if (bt660.2 != bt664.2) = true then (laws_FnNotes.j0 k l1 t657 bt660.1 bt660.2 bt664.1 true) else ((laws_pSameNotes.f k bt660.1 bt664.1).bind fun t668 => (laws_FnNotes.j0 k l1 t657 bt660.1 bt660.2 bt664.1 (!t668))))))))) = some r := h
 clear h;replace H := Option.bind_eq_some_iff.mp H;obtain ⟨t656, A30, H⟩ := H;(try dsimp only at H);have A3 := M_ A30;clear A30
 by_cases c4 : t656 = true
 ·subst c4
  have H1 : (some true) = some r := by rw [if_pos rfl] at H; exact H
  clear H;have H := H1;clear H1;obtain rfl := Option.some.inj H
  go_enter Tryz.func3, Tryz.ntmps3
  go_wp2_with (first | ((with_reducible refine gc_ 5 ?_); refine gM_ (some 42) Tryz.func5 #[.slice A0 l0.length c0, .slice A1 l1.length c1] ?_; (with_reducible refine (laws_big.calls _ _ l0 _ _ l1 true _ ?side1 ?side2 ?side3 ?side4 A3.out).mono ?_); (case side1 => exact cU_ HR0.out); (case side2 => exact HC0.out); (case side3 => exact cU_ HR1.out); (case side4 => exact HC1.out); rintro e w' ⟨rfl, ⟨nd, rfl⟩⟩; refine ⟨_, rfl, ?_⟩))
  go_ret
  exact ⟨eR_, bU_ HB⟩
 ·replace c4 := Bool.eq_false_iff.mpr c4
  subst c4
  rw [if_neg (show ¬ (false = true) by decide)] at H
  replace H := Option.bind_eq_some_iff.mp H;obtain ⟨t657, A50, H⟩ := H;(try dsimp only at H);have A5 := M_ A50;clear A50;replace H := Option.bind_eq_some_iff.mp H;obtain ⟨⟨t660, t661⟩, A60, H⟩ := H;(try dsimp only at H);have A6 := M_ A60;clear A60;replace H := Option.bind_eq_some_iff.mp H;obtain ⟨⟨t664, t665⟩, A70, H⟩ := H;(try dsimp only at H);have A7 := M_ A70;clear A70;have HC8 := M_ H;clear H
  go_enter Tryz.func3, Tryz.ntmps3
  go_upto_region 6 with (first | ((with_reducible refine gc_ 5 ?_); refine gM_ (some 42) Tryz.func5 #[.slice A0 l0.length c0, .slice A1 l1.length c1] ?_; (with_reducible refine (laws_big.calls _ _ l0 _ _ l1 false _ ?side1 ?side2 ?side3 ?side4 A3.out).mono ?_); (case side1 => exact cU_ HR0.out); (case side2 => exact HC0.out); (case side3 => exact cU_ HR1.out); (case side4 => exact HC1.out); rintro e w' ⟨rfl, ⟨nd, rfl⟩⟩; refine ⟨_, rfl, ?_⟩) | ((with_reducible refine gc_ 6 ?_); refine gM_ (some 44) Tryz.func6 #[.slice A0 l0.length c0] ?_; (with_reducible refine (spec_DrawSortNotes.calls k _ _ l0 t657 _ ?side1 ?side2 A5.out).mono ?_); (case side1 => exact cU_ HR0.out); (case side2 => exact HC0.out); rintro e w9 ⟨v658, rfl, ho0, hb⟩; refine ⟨_, rfl, ?_⟩; have HO659 := M_ (Kd.R_lower ho0 (bZ_ HB)); replace HB := M_ (bS_ HB hb); clear hb ho0; obtain ⟨Ao10, co10, eo10⟩ := Kd.R_slice HO659.out; subst eo10) | ((with_reducible refine gc_ 7 ?_); refine gM_ (some 47) Tryz.func7 #[.slice Ao10 t657.length co10] ?_; (with_reducible refine (impl_SortNotes.calls k _ _ t657 t660 t661 _ ?side1 ?side2 A6.out).mono ?_); (case side1 => exact cU_ (Kd.R_reads' HO659.out).2.2); (case side2 => exact (Kd.R_reads' HO659.out).2.1); rintro e w11 ⟨v662, rfl, ho0, hb⟩; refine ⟨_, rfl, ?_⟩; have HO663 := M_ (Kd.R_lower (Kd.R_new' ho0 (rl_ HO659)) (bZ_ HB)); replace HO659 := M_ (re_ HO659 ho0 hb); replace HB := M_ (bS_ HB hb); clear hb ho0) | ((with_reducible refine gc_ 8 ?_); refine gM_ (some 52) Tryz.func8 #[.slice Ao10 t657.length co10] ?_; (with_reducible refine (spec_SortNotes.calls k _ _ t657 t664 t665 _ ?side1 ?side2 A7.out).mono ?_); (case side1 => exact cU_ (Kd.R_reads' HO659.out).2.2); (case side2 => exact (Kd.R_reads' HO659.out).2.1); rintro e w12 ⟨v666, rfl, ho0, hb⟩; refine ⟨_, rfl, ?_⟩; have HO667 := M_ (Kd.R_lower (Kd.R_new' (Kd.R_new' ho0 (rl_ HO659)) (rl_ HO663)) (bZ_ HB)); replace HO659 := M_ (re_ HO659 ho0 hb); replace HO663 := M_ (re_ HO663 ho0 hb); replace HB := M_ (bS_ HB hb); clear hb ho0))
  (try simp only [Act.put, la_, lb_, lc_])
  go_cut [63] (fun v63 wc => ∃ (kq : Nat) (x63_7 : Bool), v63 = .bool x63_7 ∧ Aside0 (laws_FnNotes.j0 kq l1 t657 t660 t661 t664 x63_7 = some r) ∧ Aside0 (kq ≤ k) ∧ Aside0 (Kd.R k31 31 wc w.heap.size (fun k_ => some k_ ≠ (v662 : Value).ownBlock ∧ some k_ ≠ (v666 : Value).ownBlock) (.slice Ao10 t657.length co10) t657) ∧ Aside0 (Kd.R k31 31 wc w.heap.size (fun k_ => some k_ ≠ ((.slice Ao10 t657.length co10) : Value).ownBlock ∧ some k_ ≠ (v666 : Value).ownBlock) v662 t660) ∧ Aside0 (Kd.R k31 31 wc w.heap.size (fun k_ => some k_ ≠ ((.slice Ao10 t657.length co10) : Value).ownBlock ∧ some k_ ≠ (v662 : Value).ownBlock) v666 t664) ∧ Aside0 (Below w.heap.size w wc))
  case first => as_aux_lemma =>
   have H := HC8.out;clear HC8
   by_cases c13 : (t661 != t665) = true
   ·rw [if_pos c13] at H
    exact (laws_FnNotes_j0_df hrt_ H).elim
   ·rw [if_neg c13] at H
    have c13b0 : (t661 != t665) = false := by simpa using c13
    (try (have c13b1 : decide (t661 = t665) = true := by simpa using c13))
    (try (have c13b2 : (t661 == t665) = true := by simpa using c13))
    clear c13
    (first | rw [c13b0] | (simp only [i64_w, i32_w]; rw [c13b0]) | skip)
    replace H := Option.bind_eq_some_iff.mp H;obtain ⟨t668, A140, H⟩ := H;(try dsimp only at H);have A14 := M_ A140;clear A140
    have H' := M_ H
    clear H;obtain ⟨Ao15, co15, eo15⟩ := Kd.R_slice HO663.out;subst eo15;obtain ⟨Ao16, co16, eo16⟩ := Kd.R_slice HO667.out;subst eo16
    go_wp2_with (first | (go_at_call 9; (with_reducible refine (laws_pSameNotes.calls k _ _ t660 _ _ t664 t668 _ ?side1 ?side2 ?side3 ?side4 A14.out).mono ?_); (case side1 => exact cU_ (Kd.R_reads' HO663.out).2.2); (case side2 => exact (Kd.R_reads' HO663.out).2.1); (case side3 => exact cU_ (Kd.R_reads' HO667.out).2.2); (case side4 => exact (Kd.R_reads' HO667.out).2.1); rintro e w' ⟨rfl, ⟨nd, rfl⟩⟩))
    go_meet
    case rel => exact ⟨_, (!t668), eD_, H', ⟨by first | omega | exact Nat.le_refl _⟩, ⟨by (with_reducible repeat (first | apply ra_ | apply rn_ | apply rd_)); first | exact rm_ HO659.out (fun _ hk => ⟨hk.1.2, hk.2⟩) | exact rm_ HO659.out (fun _ hk => by refine ⟨?_, ?_⟩ <;> (first | exact hk.2 | exact hk.2.1 | exact hk.2.2 | exact hk.1.2 | exact hk.1.2.1 | exact hk.1.2.2 | exact hk.1.1.2 | exact hk.1.1.2.1 | exact hk.1.1.2.2 | exact hk.1.1.1.2 | exact hk.1.1.1.2.1 | exact hk.1.1.1.2.2 | exact hk.1.1.1.1.2 | exact hk.1.1.1.1.2.1 | exact hk.1.1.1.1.2.2 | exact hk | exact hk.1 | exact hk.1.1 | exact hk.1.1.1 | exact hk.1.1.1.1 | exact hk.1.1.1.1.1))⟩, ⟨by (with_reducible repeat (first | apply ra_ | apply rn_ | apply rd_)); first | exact rm_ HO663.out (fun _ hk => ⟨hk.1.2, hk.2⟩) | exact rm_ HO663.out (fun _ hk => by refine ⟨?_, ?_⟩ <;> (first | exact hk.2 | exact hk.2.1 | exact hk.2.2 | exact hk.1.2 | exact hk.1.2.1 | exact hk.1.2.2 | exact hk.1.1.2 | exact hk.1.1.2.1 | exact hk.1.1.2.2 | exact hk.1.1.1.2 | exact hk.1.1.1.2.1 | exact hk.1.1.1.2.2 | exact hk.1.1.1.1.2 | exact hk.1.1.1.1.2.1 | exact hk.1.1.1.1.2.2 | exact hk | exact hk.1 | exact hk.1.1 | exact hk.1.1.1 | exact hk.1.1.1.1 | exact hk.1.1.1.1.1))⟩, ⟨by (with_reducible repeat (first | apply ra_ | apply rn_ | apply rd_)); first | exact rm_ HO667.out (fun _ hk => ⟨hk.1.2, hk.2⟩) | exact rm_ HO667.out (fun _ hk => by refine ⟨?_, ?_⟩ <;> (first | exact hk.2 | exact hk.2.1 | exact hk.2.2 | exact hk.1.2 | exact hk.1.2.1 | exact hk.1.2.2 | exact hk.1.1.2 | exact hk.1.1.2.1 | exact hk.1.1.2.2 | exact hk.1.1.1.2 | exact hk.1.1.1.2.1 | exact hk.1.1.1.2.2 | exact hk.1.1.1.1.2 | exact hk.1.1.1.1.2.1 | exact hk.1.1.1.1.2.2 | exact hk | exact hk.1 | exact hk.1.1 | exact hk.1.1.1 | exact hk.1.1.1.1 | exact hk.1.1.1.1.1))⟩, ⟨bU_ HB⟩⟩
  case rest => as_aux_lemma =>
   clear HC8;obtain ⟨kq, x63_7, rfl, HA, HJ7, HO_5, HO_6, HO_8, HB⟩ := hcut
   cases kq with
   | zero => exact absurd HA.out (by simp [laws_FnNotes.j0])
   | succ kj7 =>
    have H := HA.out;clear HA;simp only [laws_FnNotes.j0] at H
    by_cases c17 : x63_7 = true
    ·subst c17
     have H1 : (some false) = some r := by rw [if_pos rfl] at H; exact H
     exact (df_ hrt_ H1).elim
    ·replace c17 := Bool.eq_false_iff.mpr c17
     subst c17
     rw [if_neg (show ¬ (false = true) by decide)] at H
     have HC18 := M_ H;clear H
     go_upto_if 64 with (fail)
     go_cut [] (fun wc => ∃ (kq : Nat), Aside0 (laws_FnNotes.j5 kq l1 = some r) ∧ Aside0 (kq ≤ kj7) ∧ Aside0 (Below w.heap.size w wc))
     case first => as_aux_lemma =>
      have H := HC18.out;clear HC18
      by_cases c19 : t661 = true
      ·subst c19
       rw [if_pos rfl] at H
       have HC20 := M_ H;clear H
       go_upto_region 9 with (fail)
       go_cut [74] (fun v74 wc => ∃ (kq : Nat) (x74_19 : Bool), v74 = .bool x74_19 ∧ Aside0 (laws_FnNotes.j1 kq l1 t657 t664 x74_19 = some r) ∧ Aside0 (kq ≤ kj7) ∧ Aside0 (Kd.R k31 31 wc w.heap.size (fun k_ => some k_ ≠ (v666 : Value).ownBlock) (.slice Ao10 t657.length co10) t657) ∧ Aside0 (Kd.R k31 31 wc w.heap.size (fun k_ => some k_ ≠ ((.slice Ao10 t657.length co10) : Value).ownBlock) v666 t664) ∧ Aside0 (Below w.heap.size w wc))
       case first => as_aux_lemma =>
        have H := HC20.out;clear HC20;replace H := Option.bind_eq_some_iff.mp H;obtain ⟨t669, A210, H⟩ := H;(try dsimp only at H);have A21 := M_ A210;clear A210
        by_cases c22 : t669 = true
        ·subst c22
         rw [if_pos rfl] at H
         have H' := M_ H
         clear H;obtain ⟨Ao23, co23, eo23⟩ := Kd.R_slice HO_6.out;subst eo23
         go_wp2_with (first | ((with_reducible refine gc_ 10 ?_); refine gM_ (some 66) Tryz.func10 #[.slice Ao23 t660.length co23] ?_; (with_reducible refine (impl_IsScore.calls kj7 _ _ t660 true _ ?side1 ?side2 A21.out).mono ?_); (case side1 => exact cU_ (Kd.R_reads' HO_6.out).2.2); (case side2 => exact (Kd.R_reads' HO_6.out).2.1); rintro e w24 ⟨rfl, hb⟩; refine ⟨_, rfl, ?_⟩; replace HO_5 := M_ (rB_ HO_5 hb); replace HO_6 := M_ (rB_ HO_6 hb); replace HO_8 := M_ (rB_ HO_8 hb); replace HB := M_ (bS_ HB hb); clear hb; obtain ⟨Ao25, co25, eo25⟩ := Kd.R_slice HO_8.out; subst eo25))
         go_meet
         case rel => exact ⟨_, (((t664.length : Int) != (t657.length : Int))), eD_, H', ⟨by have := HJ7.out; first | omega | exact Nat.le_refl _⟩, ⟨by (with_reducible repeat (first | apply ra_ | apply rn_ | apply rd_)); exact rm_ HO_5.out (fun _ hk => hk.2)⟩, ⟨by (with_reducible repeat (first | apply ra_ | apply rn_ | apply rd_)); exact rm_ HO_8.out (fun _ hk => hk.1)⟩, ⟨bU_ HB⟩⟩
        ·replace c22 := Bool.eq_false_iff.mpr c22
         subst c22
         have H1 : (laws_FnNotes.j1 kj7 l1 t657 t664 true) = some r := by rw [if_neg (show ¬ (false = true) by decide)] at H; exact H
         exact (laws_FnNotes_j1_df hrt_ H1).elim
       case rest => as_aux_lemma =>
        clear HC20;obtain ⟨kq, x74_19, rfl, HA, HJ19, HO_5, HO_8, HB⟩ := hcut
        cases kq with
        | zero => exact absurd HA.out (by simp [laws_FnNotes.j1])
        | succ kj19 =>
         have H := HA.out;clear HA;simp only [laws_FnNotes.j1] at H
         by_cases c28 : x74_19 = true
         ·subst c28
          have H1 : (some false) = some r := by rw [if_pos rfl] at H; exact H
          exact (df_ hrt_ H1).elim
         ·replace c28 := Bool.eq_false_iff.mpr c28
          subst c28
          rw [if_neg (show ¬ (false = true) by decide)] at H
          have H' := M_ H
          clear H
          go_wp2
          go_loopg [77] kj19 (fun kq v77 w' => ∃ (x77_3 : Int), v77 = .int .i64 x77_3 ∧ Aside0 (laws_FnNotes.l0 kq l1 t664 t657 (t657.length : Int) x77_3 = some r) ∧ Aside0 (kq ≤ kj19) ∧ Aside0 (Kd.R k31 31 w' w.heap.size (fun k_ => some k_ ≠ ((.slice Ao10 t657.length co10) : Value).ownBlock) v666 t664) ∧ Aside0 (Kd.R k31 31 w' w.heap.size (fun k_ => some k_ ≠ (v666 : Value).ownBlock) (.slice Ao10 t657.length co10) t657) ∧ Aside0 (Below w.heap.size w w'))
          case atStart => exact ⟨(0), eD_, H', ⟨Nat.le_refl _⟩, ⟨rU_ HO_8.out⟩, ⟨rU_ HO_5.out⟩, ⟨bU_ HB⟩⟩
          case round =>
           clear H';obtain ⟨x77_3, rfl, HA, HK3, HO_8, HO_75, HB⟩ := hrel
           cases gk with
           | zero => exact absurd HA.out (by simp [laws_FnNotes.l0])
           | succ k3 =>
            have H := HA.out;clear HA;simp only [laws_FnNotes.l0] at H
            by_cases c29 : x77_3 < (t657.length : Int)
            ·rw [if_pos c29] at H
             have c29b0 : decide (x77_3 < (t657.length : Int)) = true := decide_eq_true c29
             clear c29
             by_cases c30 : 0 ≤ x77_3
             ·rw [if_pos c30] at H
              have c30b0 : decide (0 ≤ x77_3) = true := decide_eq_true c30
              clear c30
              by_cases c31 : x77_3 < (t657.length : Int)
              ·rw [if_pos c31] at H
               have c31b0 : decide (x77_3 < (t657.length : Int)) = true := decide_eq_true c31
               clear c31
               have H' := M_ H
               clear H
               have p670 : 0 ≤ (x77_3 : Int) := dT_
               have q670 : x77_3 < (t657.length : Int) := dT_
               obtain ⟨ad670, e670, hx670_0, hx670_1, hx670_2⟩ := at_T31 (Kd.R_reads' HO_75.out).2.2 x77_3 p670 q670;cases e670;replace p670 := eq_true p670;replace q670 := eq_true q670
               go_wp2_with (first | ((with_reducible refine gate_dst (N := 11) rfl ?_); (try (refine gate_guard (by rfl) ?_; dsimp only)); refine bx_ (N := 11) (cs := #[.int .i64 0, .int .i64 0, .int .i64 0]) (t := 31) ?_; intro gb671 hg w32 hbox hb; replace HO_8 := M_ (rb_ (Kd.R_elderB (rU_ HO_8.out) gb671 (Nat.le_of_eq hg.symm)) hb); replace HO_75 := M_ (rb_ (Kd.R_elderB (rU_ HO_75.out) gb671 (Nat.le_of_eq hg.symm)) hb); have BK671 := M_ (hbox); have GW671 := M_ (gw_ HB hg); have GE671 := M_ (gw_ HB hg); replace HB := M_ (bS_ HB hb); clear hb hbox hg; obtain ⟨hcz33_0, hcz33_1, hcz33_2, hfz33_0, hfz33_1, hfz33_2⟩ := bq3_ BK671; obtain ⟨Ao34, co34, eo34⟩ := Kd.R_slice HO_8.out; subst eo34))
               go_loopg [12, 83] k3 (fun kq v12 v83 w' => ∃ (x12_4 : Bool) (x83_4 : Int), v12 = .bool x12_4 ∧ v83 = .int .i64 x83_4 ∧ Aside0 (laws_FnNotes.l1 kq l1 t664 x12_4 t657 (t657.length : Int) x77_3 t664 (t664.length : Int) x83_4 ((rd_T31 t657 x77_3).f0) ((rd_T31 t657 x77_3).f1) ((rd_T31 t657 x77_3).f2) = some r) ∧ Aside0 (kq ≤ k3) ∧ Aside0 (Kd.R k31 31 w' w.heap.size (fun k_ => some k_ ≠ ((.slice (some ad670) t657.length co10) : Value).ownBlock ∧ k_ ≠ gb671) (.slice Ao34 t664.length co34) t664) ∧ Aside0 (Kd.R k31 31 w' w.heap.size (fun k_ => some k_ ≠ ((.slice Ao34 t664.length co34) : Value).ownBlock ∧ some k_ ≠ ((.slice Ao34 t664.length co34) : Value).ownBlock ∧ k_ ≠ gb671) (.slice (some ad670) t657.length co10) t657) ∧ Aside0 (Kd.R k31 31 w' w.heap.size (fun k_ => some k_ ≠ ((.slice (some ad670) t657.length co10) : Value).ownBlock ∧ k_ ≠ gb671) (.slice Ao34 t664.length co34) t664) ∧ Aside0 (w'.heap[gb671]? = some (.cells #[.int .i64 ((rd_T31 t657 x77_3).f0), .int .i64 ((rd_T31 t657 x77_3).f1), .int .i64 ((rd_T31 t657 x77_3).f2)] 31 (0, 0))) ∧ Aside0 (Below w.heap.size w w'))
               case atStart => exact ⟨(false), (0), eD_, eD_, H', ⟨Nat.le_refl _⟩, ⟨by (with_reducible repeat (first | apply ra_ | apply rn_ | apply rd_)); exact rm_ (Kd.R_far (p := ⟨gb671, 2, none⟩) (Kd.R_far (p := ⟨gb671, 1, none⟩) (Kd.R_far (p := ⟨gb671, 0, none⟩) (rm_ HO_8.out (fun k_ hk => (⟨hk, hk.2⟩ : _ ∧ k_ ≠ gb671))) (fun _ hk => hk.2) (.int .i64 ((rd_T31 t657 x77_3).f0))) (fun _ hk => hk.2) (.int .i64 ((rd_T31 t657 x77_3).f1))) (fun _ hk => hk.2) (.int .i64 ((rd_T31 t657 x77_3).f2))) (fun _ hk => ⟨hk.1.1, hk.1.2⟩)⟩, ⟨by (with_reducible repeat (first | apply ra_ | apply rn_ | apply rd_)); exact rm_ (Kd.R_far (p := ⟨gb671, 2, none⟩) (Kd.R_far (p := ⟨gb671, 1, none⟩) (Kd.R_far (p := ⟨gb671, 0, none⟩) (rm_ HO_75.out (fun k_ hk => (⟨hk, hk.2⟩ : _ ∧ k_ ≠ gb671))) (fun _ hk => hk.2) (.int .i64 ((rd_T31 t657 x77_3).f0))) (fun _ hk => hk.2) (.int .i64 ((rd_T31 t657 x77_3).f1))) (fun _ hk => hk.2) (.int .i64 ((rd_T31 t657 x77_3).f2))) (fun _ hk => ⟨hk.1.1, ⟨hk.1.1, hk.1.2⟩⟩)⟩, ⟨by (with_reducible repeat (first | apply ra_ | apply rn_ | apply rd_)); exact rm_ (Kd.R_far (p := ⟨gb671, 2, none⟩) (Kd.R_far (p := ⟨gb671, 1, none⟩) (Kd.R_far (p := ⟨gb671, 0, none⟩) (rm_ HO_8.out (fun k_ hk => (⟨hk, hk.2⟩ : _ ∧ k_ ≠ gb671))) (fun _ hk => hk.2) (.int .i64 ((rd_T31 t657 x77_3).f0))) (fun _ hk => hk.2) (.int .i64 ((rd_T31 t657 x77_3).f1))) (fun _ hk => hk.2) (.int .i64 ((rd_T31 t657 x77_3).f2))) (fun _ hk => ⟨hk.1.1, hk.1.2⟩)⟩, ⟨by (with_reducible repeat (first | refine kn_ ?_ _ | refine kd_ ?_ | refine ka_ ?_ _)); refine blk_put (cs := #[.int .i64 ((rd_T31 t657 x77_3).f0), .int .i64 ((rd_T31 t657 x77_3).f1), .int .i64 0]) ?_ 2 _ rfl; (with_reducible repeat (first | refine kn_ ?_ _ | refine kd_ ?_ | refine ka_ ?_ _)); refine blk_put (cs := #[.int .i64 ((rd_T31 t657 x77_3).f0), .int .i64 0, .int .i64 0]) ?_ 1 _ rfl; (with_reducible repeat (first | refine kn_ ?_ _ | refine kd_ ?_ | refine ka_ ?_ _)); refine blk_put (cs := #[.int .i64 0, .int .i64 0, .int .i64 0]) ?_ 0 _ rfl; (with_reducible repeat (first | refine kn_ ?_ _ | refine kd_ ?_ | refine ka_ ?_ _)); exact BK671.out⟩, ⟨bU_ HB⟩⟩
               case round =>
                clear H';obtain ⟨x12_4, x83_4, rfl, rfl, HA, HK4, HO_8, HO_75, HO_81, BK671, HB⟩ := hrel
                cases gk with
                | zero => exact absurd HA.out (by simp [laws_FnNotes.l1])
                | succ k4 =>
                 have H := HA.out;clear HA;simp only [laws_FnNotes.l1] at H
                 by_cases c35 : x83_4 < (t664.length : Int)
                 ·rw [if_pos c35] at H
                  have c35b0 : decide (x83_4 < (t664.length : Int)) = true := decide_eq_true c35
                  clear c35
                  by_cases c36 : 0 ≤ x83_4
                  ·rw [if_pos c36] at H
                   have c36b0 : decide (0 ≤ x83_4) = true := decide_eq_true c36
                   clear c36
                   by_cases c37 : x83_4 < (t664.length : Int)
                   ·rw [if_pos c37] at H
                    have c37b0 : decide (x83_4 < (t664.length : Int)) = true := decide_eq_true c37
                    clear c37
                    by_cases c38 : x12_4 = true
                    focus
                     subst c38
                     rw [if_pos rfl] at H
                    rotate_left
                    focus
                     replace c38 := Bool.eq_false_iff.mpr c38
                     subst c38
                     rw [if_neg (show ¬ (false = true) by decide)] at H
                    rotate_left
                    all_goals
                     have H' := M_ H
                     clear H
                     have p672 : 0 ≤ (x83_4 : Int) := dT_
                     have q672 : x83_4 < (t664.length : Int) := dT_
                     obtain ⟨ad672, e672, hx672_0, hx672_1, hx672_2⟩ := at_T31 (Kd.R_reads' HO_81.out).2.2 x83_4 p672 q672;cases e672;replace p672 := eq_true p672;replace q672 := eq_true q672
                    ·go_wp2_with (first | ((with_reducible refine gate_dst (N := 14) rfl ?_); (try (refine gate_guard (by rfl) ?_; dsimp only)); refine bx_ (N := 14) (cs := #[.int .i64 0, .int .i64 0, .int .i64 0]) (t := 31) ?_; intro gb673 hg w39 hbox hb; replace HO_8 := M_ (rb_ (Kd.R_elderB (rU_ HO_8.out) gb673 (Nat.le_of_eq hg.symm)) hb); replace HO_75 := M_ (rb_ (Kd.R_elderB (rU_ HO_75.out) gb673 (Nat.le_of_eq hg.symm)) hb); replace HO_81 := M_ (rb_ (Kd.R_elderB (rU_ HO_81.out) gb673 (Nat.le_of_eq hg.symm)) hb); have BK673 := M_ (hbox); have GW673 := M_ (gw_ HB hg); have GE673 := M_ (gw_ HB hg); replace HB := M_ (bS_ HB hb); have NB671_673 := M_ (nb_ BK671 hg); have NB673_671 := M_ ((by rw [hg]; exact Nat.ne_of_gt (blk_lt (kU_ BK671)) : gb673 ≠ gb671)); replace BK671 := M_ (kb_ BK671 hb); clear hb hbox hg; have hnb40 := NB673_671.out; have hnc40 := NB671_673.out; obtain ⟨hcz41_0, hcz41_1, hcz41_2, hfz41_0, hfz41_1, hfz41_2⟩ := bq3_ BK673))
                     go_roundg k4
                     case measure => have := HJ7.out; have := HJ19.out; have := HK3.out; have := HK4.out; omega
                     case rel => exact ⟨(true), (wrap64 (x83_4 + 1)), eD_, eD_, H', ⟨by have := HJ7.out; have := HJ19.out; have := HK3.out; have := HK4.out; omega⟩, ⟨by (with_reducible repeat (first | apply ra_ | apply rn_ | apply rd_)); exact rm_ (Kd.R_far (p := ⟨gb673, 2, none⟩) (Kd.R_far (p := ⟨gb673, 1, none⟩) (Kd.R_far (p := ⟨gb673, 0, none⟩) (rm_ HO_8.out (fun k_ hk => (⟨hk, hk.2⟩ : _ ∧ k_ ≠ gb673))) (fun _ hk => hk.2) (.int .i64 ((rd_T31 t664 x83_4).f0))) (fun _ hk => hk.2) (.int .i64 ((rd_T31 t664 x83_4).f1))) (fun _ hk => hk.2) (.int .i64 ((rd_T31 t664 x83_4).f2))) (fun _ hk => ⟨hk.1.1.1, hk.1.1.2⟩)⟩, ⟨by (with_reducible repeat (first | apply ra_ | apply rn_ | apply rd_)); exact rm_ (Kd.R_far (p := ⟨gb673, 2, none⟩) (Kd.R_far (p := ⟨gb673, 1, none⟩) (Kd.R_far (p := ⟨gb673, 0, none⟩) (rm_ HO_75.out (fun k_ hk => (⟨hk, hk.2⟩ : _ ∧ k_ ≠ gb673))) (fun _ hk => hk.2) (.int .i64 ((rd_T31 t664 x83_4).f0))) (fun _ hk => hk.2) (.int .i64 ((rd_T31 t664 x83_4).f1))) (fun _ hk => hk.2) (.int .i64 ((rd_T31 t664 x83_4).f2))) (fun _ hk => ⟨hk.1.1.1, ⟨hk.1.1.2.1, hk.1.1.2.2⟩⟩)⟩, ⟨by (with_reducible repeat (first | apply ra_ | apply rn_ | apply rd_)); exact rm_ (Kd.R_far (p := ⟨gb673, 2, none⟩) (Kd.R_far (p := ⟨gb673, 1, none⟩) (Kd.R_far (p := ⟨gb673, 0, none⟩) (rm_ HO_81.out (fun k_ hk => (⟨hk, hk.2⟩ : _ ∧ k_ ≠ gb673))) (fun _ hk => hk.2) (.int .i64 ((rd_T31 t664 x83_4).f0))) (fun _ hk => hk.2) (.int .i64 ((rd_T31 t664 x83_4).f1))) (fun _ hk => hk.2) (.int .i64 ((rd_T31 t664 x83_4).f2))) (fun _ hk => ⟨hk.1.1.1, hk.1.1.2⟩)⟩, ⟨by (with_reducible repeat (first | refine kn_ ?_ _ | refine kd_ ?_ | refine ka_ ?_ _)); refine blk_far ?_ NB671_673.out _; (with_reducible repeat (first | refine kn_ ?_ _ | refine kd_ ?_ | refine ka_ ?_ _)); refine blk_far ?_ NB671_673.out _; (with_reducible repeat (first | refine kn_ ?_ _ | refine kd_ ?_ | refine ka_ ?_ _)); refine blk_far ?_ NB671_673.out _; (with_reducible repeat (first | refine kn_ ?_ _ | refine kd_ ?_ | refine ka_ ?_ _)); exact BK671.out⟩, ⟨bU_ HB⟩⟩
                    ·go_wp2_with (first | ((with_reducible refine gate_dst (N := 14) rfl ?_); (try (refine gate_guard (by rfl) ?_; dsimp only)); refine bx_ (N := 14) (cs := #[.int .i64 0, .int .i64 0, .int .i64 0]) (t := 31) ?_; intro gb673 hg w42 hbox hb; replace HO_8 := M_ (rb_ (Kd.R_elderB (rU_ HO_8.out) gb673 (Nat.le_of_eq hg.symm)) hb); replace HO_75 := M_ (rb_ (Kd.R_elderB (rU_ HO_75.out) gb673 (Nat.le_of_eq hg.symm)) hb); replace HO_81 := M_ (rb_ (Kd.R_elderB (rU_ HO_81.out) gb673 (Nat.le_of_eq hg.symm)) hb); have BK673 := M_ (hbox); have GW673 := M_ (gw_ HB hg); have GE673 := M_ (gw_ HB hg); replace HB := M_ (bS_ HB hb); have NB671_673 := M_ (nb_ BK671 hg); have NB673_671 := M_ ((by rw [hg]; exact Nat.ne_of_gt (blk_lt (kU_ BK671)) : gb673 ≠ gb671)); replace BK671 := M_ (kb_ BK671 hb); clear hb hbox hg; have hnb43 := NB673_671.out; have hnc43 := NB671_673.out; obtain ⟨hcz44_0, hcz44_1, hcz44_2, hfz44_0, hfz44_1, hfz44_2⟩ := bq3_ BK673; obtain ⟨hcz45_0, hcz45_1, hcz45_2, hfz45_0, hfz45_1, hfz45_2⟩ := bq3_ BK671))
                     go_roundg k4
                     case measure => have := HJ7.out; have := HJ19.out; have := HK3.out; have := HK4.out; omega
                     case rel => exact ⟨((((rd_T31 t657 x77_3).f0) == ((rd_T31 t664 x83_4).f0) && (((rd_T31 t657 x77_3).f1) == ((rd_T31 t664 x83_4).f1) && (((rd_T31 t657 x77_3).f2) == ((rd_T31 t664 x83_4).f2))))), (wrap64 (x83_4 + 1)), eD_, eD_, H', ⟨by have := HJ7.out; have := HJ19.out; have := HK3.out; have := HK4.out; omega⟩, ⟨by (with_reducible repeat (first | apply ra_ | apply rn_ | apply rd_)); exact rm_ (Kd.R_far (p := ⟨gb673, 2, none⟩) (Kd.R_far (p := ⟨gb673, 1, none⟩) (Kd.R_far (p := ⟨gb673, 0, none⟩) (rm_ HO_8.out (fun k_ hk => (⟨hk, hk.2⟩ : _ ∧ k_ ≠ gb673))) (fun _ hk => hk.2) (.int .i64 ((rd_T31 t664 x83_4).f0))) (fun _ hk => hk.2) (.int .i64 ((rd_T31 t664 x83_4).f1))) (fun _ hk => hk.2) (.int .i64 ((rd_T31 t664 x83_4).f2))) (fun _ hk => ⟨hk.1.1.1, hk.1.1.2⟩)⟩, ⟨by (with_reducible repeat (first | apply ra_ | apply rn_ | apply rd_)); exact rm_ (Kd.R_far (p := ⟨gb673, 2, none⟩) (Kd.R_far (p := ⟨gb673, 1, none⟩) (Kd.R_far (p := ⟨gb673, 0, none⟩) (rm_ HO_75.out (fun k_ hk => (⟨hk, hk.2⟩ : _ ∧ k_ ≠ gb673))) (fun _ hk => hk.2) (.int .i64 ((rd_T31 t664 x83_4).f0))) (fun _ hk => hk.2) (.int .i64 ((rd_T31 t664 x83_4).f1))) (fun _ hk => hk.2) (.int .i64 ((rd_T31 t664 x83_4).f2))) (fun _ hk => ⟨hk.1.1.1, ⟨hk.1.1.2.1, hk.1.1.2.2⟩⟩)⟩, ⟨by (with_reducible repeat (first | apply ra_ | apply rn_ | apply rd_)); exact rm_ (Kd.R_far (p := ⟨gb673, 2, none⟩) (Kd.R_far (p := ⟨gb673, 1, none⟩) (Kd.R_far (p := ⟨gb673, 0, none⟩) (rm_ HO_81.out (fun k_ hk => (⟨hk, hk.2⟩ : _ ∧ k_ ≠ gb673))) (fun _ hk => hk.2) (.int .i64 ((rd_T31 t664 x83_4).f0))) (fun _ hk => hk.2) (.int .i64 ((rd_T31 t664 x83_4).f1))) (fun _ hk => hk.2) (.int .i64 ((rd_T31 t664 x83_4).f2))) (fun _ hk => ⟨hk.1.1.1, hk.1.1.2⟩)⟩, ⟨by (with_reducible repeat (first | refine kn_ ?_ _ | refine kd_ ?_ | refine ka_ ?_ _)); refine blk_far ?_ NB671_673.out _; (with_reducible repeat (first | refine kn_ ?_ _ | refine kd_ ?_ | refine ka_ ?_ _)); refine blk_far ?_ NB671_673.out _; (with_reducible repeat (first | refine kn_ ?_ _ | refine kd_ ?_ | refine ka_ ?_ _)); refine blk_far ?_ NB671_673.out _; (with_reducible repeat (first | refine kn_ ?_ _ | refine kd_ ?_ | refine ka_ ?_ _)); exact BK671.out⟩, ⟨bU_ HB⟩⟩
                   ·rw [if_neg c37] at H
                    exact absurd H (by simp)
                  ·rw [if_neg c36] at H
                   exact absurd H (by simp)
                 ·rw [if_neg c35] at H
                  have c35b0 : decide (x83_4 < (t664.length : Int)) = false := decide_eq_false c35
                  clear c35;have HC46 := M_ H;clear H
                  go_upto_region 20 with (fail)
                  go_cut [100] (fun v100 wc => ∃ (kq : Nat) (x100_45 : Bool), v100 = .bool x100_45 ∧ Aside0 (laws_FnNotes.j4 kq l1 t664 t657 (t657.length : Int) x77_3 x100_45 = some r) ∧ Aside0 (kq ≤ k4) ∧ Aside0 (Kd.R k31 31 wc w.heap.size (fun k_ => some k_ ≠ ((.slice (some ad670) t657.length co10) : Value).ownBlock ∧ k_ ≠ gb671) (.slice Ao34 t664.length co34) t664) ∧ Aside0 (Kd.R k31 31 wc w.heap.size (fun k_ => some k_ ≠ ((.slice Ao34 t664.length co34) : Value).ownBlock ∧ k_ ≠ gb671) (.slice (some ad670) t657.length co10) t657) ∧ Aside0 (wc.heap[gb671]? = some (.cells #[.int .i64 ((rd_T31 t657 x77_3).f0), .int .i64 ((rd_T31 t657 x77_3).f1), .int .i64 ((rd_T31 t657 x77_3).f2)] 31 (0, 0))) ∧ Aside0 (Below w.heap.size w wc))
                  case first => as_aux_lemma =>
                   have H := HC46.out;clear HC46
                   by_cases c47 : x12_4 = true
                   ·subst c47
                    rw [if_pos rfl] at H
                    replace H := Option.bind_eq_some_iff.mp H;obtain ⟨t674, A480, H⟩ := H;(try dsimp only at H);have A48 := M_ A480;clear A480
                    have H' := M_ H
                    clear H;obtain ⟨hcz49_0, hcz49_1, hcz49_2, hfz49_0, hfz49_1, hfz49_2⟩ := bq3_ BK671
                    go_wp2_with (first | (go_at_call 11; (with_reducible refine (impl_IsNote.calls ((rd_T31 t657 x77_3).f0) ((rd_T31 t657 x77_3).f1) ((rd_T31 t657 x77_3).f2) t674 _ A48.out).mono ?_); rintro e w50 ⟨rfl, hb⟩; replace HO_8 := M_ (rB_ HO_8 hb); replace HO_75 := M_ (rB_ HO_75 hb); replace HO_81 := M_ (rB_ HO_81 hb); replace BK671 := M_ (kb_ BK671 hb); replace HB := M_ (bS_ HB hb); clear hb))
                    go_meet
                    case rel => exact ⟨_, (!t674), eD_, H', ⟨by have := HJ7.out; have := HJ19.out; have := HK3.out; have := HK4.out; first | omega | exact Nat.le_refl _⟩, ⟨rU_ HO_8.out⟩, ⟨by (with_reducible repeat (first | apply ra_ | apply rn_ | apply rd_)); first | exact rm_ HO_75.out (fun _ hk => ⟨hk.1, hk.2.2⟩) | exact rm_ HO_75.out (fun _ hk => by refine ⟨?_, ?_⟩ <;> (first | exact hk.2 | exact hk.2.1 | exact hk.2.2 | exact hk.1.2 | exact hk.1.2.1 | exact hk.1.2.2 | exact hk.1.1.2 | exact hk.1.1.2.1 | exact hk.1.1.2.2 | exact hk.1.1.1.2 | exact hk.1.1.1.2.1 | exact hk.1.1.1.2.2 | exact hk.1.1.1.1.2 | exact hk.1.1.1.1.2.1 | exact hk.1.1.1.1.2.2 | exact hk | exact hk.1 | exact hk.1.1 | exact hk.1.1.1 | exact hk.1.1.1.1 | exact hk.1.1.1.1.1))⟩, ⟨kU_ BK671⟩, ⟨bU_ HB⟩⟩
                   ·replace c47 := Bool.eq_false_iff.mpr c47
                    subst c47
                    have H1 : (laws_FnNotes.j4 k4 l1 t664 t657 (t657.length : Int) x77_3 true) = some r := by rw [if_neg (show ¬ (false = true) by decide)] at H; exact H
                    exact (laws_FnNotes_j4_df hrt_ H1).elim
                  case rest => as_aux_lemma =>
                   clear HC46;obtain ⟨kq, x100_45, rfl, HA, HJ45, HO_8, HO_75, BK671, HB⟩ := hcut
                   cases kq with
                   | zero => exact absurd HA.out (by simp [laws_FnNotes.j4])
                   | succ kj45 =>
                    have H := HA.out;clear HA;simp only [laws_FnNotes.j4] at H
                    by_cases c51 : x100_45 = true
                    ·subst c51
                     have H1 : (some false) = some r := by rw [if_pos rfl] at H; exact H
                     exact (df_ hrt_ H1).elim
                    ·replace c51 := Bool.eq_false_iff.mpr c51
                     subst c51
                     rw [if_neg (show ¬ (false = true) by decide)] at H
                     have H' := M_ H
                     clear H
                     go_wp2
                     go_roundg kj45
                     case measure => have := HJ7.out; have := HJ19.out; have := HK3.out; have := HK4.out; have := HJ45.out; omega
                     case rel => exact ⟨(wrap64 (x77_3 + 1)), eD_, H', ⟨by have := HJ7.out; have := HJ19.out; have := HK3.out; have := HK4.out; have := HJ45.out; omega⟩, ⟨by (with_reducible repeat (first | apply ra_ | apply rn_ | apply rd_)); exact rm_ HO_8.out (fun _ hk => hk.1)⟩, ⟨by (with_reducible repeat (first | apply ra_ | apply rn_ | apply rd_)); exact rm_ HO_75.out (fun _ hk => hk.1)⟩, ⟨bU_ HB⟩⟩
              ·rw [if_neg c31] at H
               exact absurd H (by simp)
             ·rw [if_neg c30] at H
              exact absurd H (by simp)
            ·rw [if_neg c29] at H
             have c29b0 : decide (x77_3 < (t657.length : Int)) = false := decide_eq_false c29
             clear c29
             have H' := M_ H
             clear H
             go_wp2
             go_meet
             case rel => exact ⟨_, H', ⟨by have := HJ7.out; have := HJ19.out; have := HK3.out; first | omega | exact Nat.le_refl _⟩, ⟨bU_ HB⟩⟩
      ·replace c19 := Bool.eq_false_iff.mpr c19
       subst c19
       rw [if_neg (show ¬ (false = true) by decide)] at H
       have H' := M_ H
       clear H
       go_wp2
       go_meet
       case rel => exact ⟨_, H', ⟨by have := HJ7.out; first | omega | exact Nat.le_refl _⟩, ⟨bU_ HB⟩⟩
     case rest => as_aux_lemma =>
      clear HC18;obtain ⟨kq, HA, HJ17, HB⟩ := hcut
      cases kq with
      | zero => exact absurd HA.out (by simp [laws_FnNotes.j5])
      | succ kj17 =>
       have H := HA.out;clear HA;simp only [laws_FnNotes.j5] at H;replace H := Option.bind_eq_some_iff.mp H;obtain ⟨⟨t675, t676⟩, A520, H⟩ := H;(try dsimp only at H);have A52 := M_ A520;clear A520;replace H := Option.bind_eq_some_iff.mp H;obtain ⟨⟨t681, t682⟩, A530, H⟩ := H;(try dsimp only at H);have A53 := M_ A530;clear A530;replace H := Option.bind_eq_some_iff.mp H;obtain ⟨⟨t685, t686⟩, A540, H⟩ := H;(try dsimp only at H);have A54 := M_ A540;clear A540;replace H := Option.bind_eq_some_iff.mp H;obtain ⟨⟨t689, t690⟩, A550, H⟩ := H;(try dsimp only at H);have A55 := M_ A550;clear A550;have HC56 := M_ H;clear H
       go_upto_region 27 with (first | ((with_reducible refine gc_ 12 ?_); refine gM_ (some 104) Tryz.func12 #[.slice A1 l1.length c1] ?_; (with_reducible refine (spec_DrawJoinScores.calls kj17 _ _ l1 t675 t676 _ ?side1 ?side2 A52.out).mono ?_); (case side1 => exact cU_ (Kd.C_below HR1.out HB.out)); (case side2 => exact HC1.out); rintro e w57 ⟨v677, v679, rfl, ho0, ho1, hb⟩; refine ⟨_, rfl, ?_⟩; have HO678 := M_ (Kd.R_lower ho0 (bZ_ HB)); have HO680 := M_ (Kd.R_lower ho1 (bZ_ HB)); replace HB := M_ (bS_ HB hb); clear hb ho0 ho1; obtain ⟨Ao58, co58, eo58⟩ := Kd.R_slice HO678.out; subst eo58; obtain ⟨Ao59, co59, eo59⟩ := Kd.R_slice HO680.out; subst eo59) | ((with_reducible refine gc_ 13 ?_); refine gM_ (some 110) Tryz.func13 #[.slice Ao58 t675.length co58, .slice Ao59 t676.length co59] ?_; (with_reducible refine (impl_JoinScores.calls kj17 _ _ t675 _ _ t676 t681 t682 _ ?side1 ?side2 ?side3 ?side4 A53.out).mono ?_); (case side1 => exact cU_ (Kd.R_reads' HO678.out).2.2); (case side2 => exact (Kd.R_reads' HO678.out).2.1); (case side3 => exact cU_ (Kd.R_reads' HO680.out).2.2); (case side4 => exact (Kd.R_reads' HO680.out).2.1); rintro e w60 ⟨v683, rfl, ho0, hb⟩; refine ⟨_, rfl, ?_⟩; have HO684 := M_ (Kd.R_lower (Kd.R_new' (Kd.R_new' ho0 (rl_ HO678)) (rl_ HO680)) (bZ_ HB)); replace HO678 := M_ (re_ HO678 ho0 hb); replace HO680 := M_ (re_ HO680 ho0 hb); replace HB := M_ (bS_ HB hb); clear hb ho0) | ((with_reducible refine gc_ 14 ?_); refine gM_ (some 116) Tryz.func14 #[.slice Ao58 t675.length co58, .slice Ao59 t676.length co59] ?_; (with_reducible refine (spec_JoinScores.calls kj17 _ _ t675 _ _ t676 t685 t686 _ ?side1 ?side2 ?side3 ?side4 A54.out).mono ?_); (case side1 => exact cU_ (Kd.R_reads' HO678.out).2.2); (case side2 => exact (Kd.R_reads' HO678.out).2.1); (case side3 => exact cU_ (Kd.R_reads' HO680.out).2.2); (case side4 => exact (Kd.R_reads' HO680.out).2.1); rintro e w61 ⟨v687, rfl, ho0, hb⟩; refine ⟨_, rfl, ?_⟩; have HO688 := M_ (Kd.R_lower (Kd.R_new' (Kd.R_new' (Kd.R_new' ho0 (rl_ HO678)) (rl_ HO680)) (rl_ HO684)) (bZ_ HB)); replace HO678 := M_ (re_ HO678 ho0 hb); replace HO680 := M_ (re_ HO680 ho0 hb); replace HO684 := M_ (re_ HO684 ho0 hb); replace HB := M_ (bS_ HB hb); clear hb ho0) | ((with_reducible refine gc_ 13 ?_); refine gM_ (some 122) Tryz.func13 #[.slice Ao59 t676.length co59, .slice Ao58 t675.length co58] ?_; (with_reducible refine (impl_JoinScores.calls kj17 _ _ t676 _ _ t675 t689 t690 _ ?side1 ?side2 ?side3 ?side4 A55.out).mono ?_); (case side1 => exact cU_ (Kd.R_reads' HO680.out).2.2); (case side2 => exact (Kd.R_reads' HO680.out).2.1); (case side3 => exact cU_ (Kd.R_reads' HO678.out).2.2); (case side4 => exact (Kd.R_reads' HO678.out).2.1); rintro e w62 ⟨v691, rfl, ho0, hb⟩; refine ⟨_, rfl, ?_⟩; have HO692 := M_ (Kd.R_lower (Kd.R_new' (Kd.R_new' (Kd.R_new' (Kd.R_new' ho0 (rl_ HO678)) (rl_ HO680)) (rl_ HO684)) (rl_ HO688)) (bZ_ HB)); replace HO678 := M_ (re_ HO678 ho0 hb); replace HO680 := M_ (re_ HO680 ho0 hb); replace HO684 := M_ (re_ HO684 ho0 hb); replace HO688 := M_ (re_ HO688 ho0 hb); replace HB := M_ (bS_ HB hb); clear hb ho0))
       (try simp only [Act.put, la_, lb_, lc_])
       go_cut [157] (fun v157 wc => ∃ (kq : Nat) (x157_55 : Bool), v157 = .bool x157_55 ∧ Aside0 (laws_FnNotes.j6 kq l1 x157_55 = some r) ∧ Aside0 (kq ≤ kj17) ∧ Aside0 (Below w.heap.size w wc))
       case first => as_aux_lemma =>
        have H := HC56.out;clear HC56
        by_cases c63 : (t682 != t686) = true
        ·rw [if_pos c63] at H
         exact (laws_FnNotes_j6_df hrt_ H).elim
        ·rw [if_neg c63] at H
         have c63b0 : (t682 != t686) = false := by simpa using c63
         (try (have c63b1 : decide (t682 = t686) = true := by simpa using c63))
         (try (have c63b2 : (t682 == t686) = true := by simpa using c63))
         clear c63
         (first | rw [c63b0] | (simp only [i64_w, i32_w]; rw [c63b0]) | skip)
         replace H := Option.bind_eq_some_iff.mp H;obtain ⟨t693, A640, H⟩ := H;(try dsimp only at H);have A64 := M_ A640;clear A640
         by_cases c65 : t693 = true
         ·subst c65
          rw [if_pos rfl] at H
          by_cases c66 : (t690 != t682) = true
          ·rw [if_pos c66] at H
           exact (laws_FnNotes_j6_df hrt_ H).elim
          ·rw [if_neg c66] at H
           have c66b0 : (t690 != t682) = false := by simpa using c66
           (try (have c66b1 : decide (t690 = t682) = true := by simpa using c66))
           (try (have c66b2 : (t690 == t682) = true := by simpa using c66))
           clear c66;replace H := Option.bind_eq_some_iff.mp H;obtain ⟨t694, A690, H⟩ := H;(try dsimp only at H);have A69 := M_ A690;clear A690
           by_cases c70 : t694 = true
           ·subst c70
            rw [if_pos rfl] at H
            by_cases c71 : t682 = true
            focus
             subst c71
             rw [if_pos rfl] at H
            rotate_left
            focus
             replace c71 := Bool.eq_false_iff.mpr c71
             subst c71
             rw [if_neg (show ¬ (false = true) by decide)] at H
            rotate_left
            all_goals
             have H' := M_ H
             clear H;obtain ⟨Ao72, co72, eo72⟩ := Kd.R_slice HO684.out;subst eo72;obtain ⟨Ao73, co73, eo73⟩ := Kd.R_slice HO688.out;subst eo73
             go_wp2_with (first | (go_at_call 9; (with_reducible refine (laws_pSameNotes.calls kj17 _ _ t681 _ _ t685 true _ ?side1 ?side2 ?side3 ?side4 A64.out).mono ?_); (case side1 => exact cU_ (Kd.R_reads' HO684.out).2.2); (case side2 => exact (Kd.R_reads' HO684.out).2.1); (case side3 => exact cU_ (Kd.R_reads' HO688.out).2.2); (case side4 => exact (Kd.R_reads' HO688.out).2.1); rintro e w' ⟨rfl, ⟨nd, rfl⟩⟩; obtain ⟨Ao74, co74, eo74⟩ := Kd.R_slice HO692.out; subst eo74) | (go_at_call 9; (with_reducible refine (laws_pSameNotes.calls kj17 _ _ t689 _ _ t685 true _ ?side1 ?side2 ?side3 ?side4 A69.out).mono ?_); (case side1 => exact cU_ (Kd.R_reads' HO692.out).2.2); (case side2 => exact (Kd.R_reads' HO692.out).2.1); (case side3 => exact cU_ (Kd.R_reads' HO688.out).2.2); (case side4 => exact (Kd.R_reads' HO688.out).2.1); rintro e w' ⟨rfl, ⟨nd, rfl⟩⟩))
             go_meet
            ·case rel => exact ⟨_, (((t685.length : Int) != (wrap64 ((t675.length : Int) + (t676.length : Int))))), eD_, H', ⟨by have := HJ7.out; have := HJ17.out; first | omega | exact Nat.le_refl _⟩, ⟨bU_ HB⟩⟩
            ·case rel => exact ⟨_, (false), eD_, H', ⟨by have := HJ7.out; have := HJ17.out; first | omega | exact Nat.le_refl _⟩, ⟨bU_ HB⟩⟩
           ·replace c70 := Bool.eq_false_iff.mpr c70
            subst c70
            have H1 : (laws_FnNotes.j6 kj17 l1 true) = some r := by rw [if_neg (show ¬ (false = true) by decide)] at H; exact H
            exact (laws_FnNotes_j6_df hrt_ H1).elim
         ·replace c65 := Bool.eq_false_iff.mpr c65
          subst c65
          have H1 : (laws_FnNotes.j6 kj17 l1 true) = some r := by rw [if_neg (show ¬ (false = true) by decide)] at H; exact H
          exact (laws_FnNotes_j6_df hrt_ H1).elim
       case rest => as_aux_lemma =>
        clear HC56;obtain ⟨kq, x157_55, rfl, HA, HJ55, HB⟩ := hcut
        cases kq with
        | zero => exact absurd HA.out (by simp [laws_FnNotes.j6])
        | succ kj55 =>
         have H := HA.out;clear HA;simp only [laws_FnNotes.j6] at H
         by_cases c83 : x157_55 = true
         ·subst c83
          have H1 : (some false) = some r := by rw [if_pos rfl] at H; exact H
          exact (df_ hrt_ H1).elim
         ·replace c83 := Bool.eq_false_iff.mpr c83
          subst c83
          rw [if_neg (show ¬ (false = true) by decide)] at H
          replace H := Option.bind_eq_some_iff.mp H;obtain ⟨⟨t695, t696⟩, A840, H⟩ := H;(try dsimp only at H);have A84 := M_ A840;clear A840;replace H := Option.bind_eq_some_iff.mp H;obtain ⟨⟨t699, t700⟩, A850, H⟩ := H;(try dsimp only at H);have A85 := M_ A850;clear A850;replace H := Option.bind_eq_some_iff.mp H;obtain ⟨⟨t703, t704⟩, A860, H⟩ := H;(try dsimp only at H);have A86 := M_ A860;clear A860;replace H := Option.bind_eq_some_iff.mp H;obtain ⟨t707, A870, H⟩ := H;(try dsimp only at H);have A87 := M_ A870;clear A870;replace H := Option.bind_eq_some_iff.mp H;obtain ⟨⟨t708, t709⟩, A880, H⟩ := H;(try dsimp only at H);have A88 := M_ A880;clear A880;replace H := Option.bind_eq_some_iff.mp H;obtain ⟨⟨t710, t711⟩, A890, H⟩ := H;(try dsimp only at H);have A89 := M_ A890;clear A890;replace H := Option.bind_eq_some_iff.mp H;obtain ⟨t712, A900, H⟩ := H;(try dsimp only at H);have A90 := M_ A900;clear A900;replace H := Option.bind_eq_some_iff.mp H;obtain ⟨⟨t713, t714⟩, A910, H⟩ := H;(try dsimp only at H);have A91 := M_ A910;clear A910;replace H := Option.bind_eq_some_iff.mp H;obtain ⟨⟨t717, t718⟩, A920, H⟩ := H;(try dsimp only at H);have A92 := M_ A920;clear A920;replace H := Option.bind_eq_some_iff.mp H;obtain ⟨⟨t721, t722, t723⟩, A930, H⟩ := H;(try dsimp only at H);have A93 := M_ A930;clear A930
          by_cases c94 : (t700 == t704) = true
          ·rw [if_pos c94] at H
           have c94b0 : (t700 == t704) = true := c94
           (try (have c94b1 : decide (t700 = t704) = true := by simpa using c94))
           (try (have c94b2 : (t700 == t704) = true := by simpa using c94))
           clear c94;replace H := Option.bind_eq_some_iff.mp H;obtain ⟨t725, A950, H⟩ := H;(try dsimp only at H);have A95 := M_ A950;clear A950
           by_cases c96 : t725 = true
           ·subst c96
            rw [if_pos rfl] at H
            by_cases c97 : (t709 == t711) = true
            ·rw [if_pos c97] at H
             have c97b0 : (t709 == t711) = true := c97
             (try (have c97b1 : decide (t709 = t711) = true := by simpa using c97))
             (try (have c97b2 : (t709 == t711) = true := by simpa using c97))
             clear c97
             by_cases c98 : t708.toList = t710.toList
             ·rw [if_pos c98] at H
              have c98b0 : (t708.toList == t710.toList) = true := beq_iff_eq.mpr c98
              have c98b1 : (t708.toList != t710.toList) = false := bne_eq_false_iff_eq.mpr c98
              clear c98
              by_cases c99 : (t714 == t718) = true
              ·rw [if_pos c99] at H
               have c99b0 : (t714 == t718) = true := c99
               (try (have c99b1 : decide (t714 = t718) = true := by simpa using c99))
               (try (have c99b2 : (t714 == t718) = true := by simpa using c99))
               clear c99;replace H := Option.bind_eq_some_iff.mp H;obtain ⟨t726, A1000, H⟩ := H;(try dsimp only at H);have A100 := M_ A1000;clear A1000
               by_cases c101 : t726 = true
               ·subst c101
                rw [if_pos rfl] at H
                replace H := Option.bind_eq_some_iff.mp H;obtain ⟨t727, A1020, H⟩ := H;(try dsimp only at H);have A102 := M_ A1020;clear A1020;replace H := Option.bind_eq_some_iff.mp H;obtain ⟨t728, A1030, H⟩ := H;replace H : (some (t727 == t728)) = some r := H;have A103 := M_ A1030;clear A1030;obtain rfl := Option.some.inj H
                try go_wp2_with (first | ((with_reducible refine gc_ 15 ?_); refine gM_ (some 160) Tryz.func15 #[.slice A1 l1.length c1] ?_; (with_reducible refine (spec_DrawSoundingAt.calls kj55 _ _ l1 t695 t696 _ ?side1 ?side2 A84.out).mono ?_); (case side1 => exact cU_ (Kd.C_below HR1.out HB.out)); (case side2 => exact HC1.out); rintro e w104 ⟨v697, rfl, ho0, hb⟩; refine ⟨_, rfl, ?_⟩; have HO698 := M_ (Kd.R_lower ho0 (bZ_ HB)); replace HB := M_ (bS_ HB hb); clear hb ho0; obtain ⟨Ao105, co105, eo105⟩ := Kd.R_slice HO698.out; subst eo105) | ((with_reducible refine gc_ 16 ?_); refine gM_ (some 166) Tryz.func16 #[.slice Ao105 t695.length co105, .int .i64 t696] ?_; (with_reducible refine (impl_SoundingAt.calls kj55 _ _ t695 t696 t699 t700 _ ?side1 ?side2 A85.out).mono ?_); (case side1 => exact cU_ (Kd.R_reads' HO698.out).2.2); (case side2 => exact (Kd.R_reads' HO698.out).2.1); rintro e w106 ⟨v701, rfl, ho0, hb⟩; refine ⟨_, rfl, ?_⟩; replace HO698 := M_ (rB_ HO698 hb); have HO702 := M_ (Kd.R_lower ho0 (bZ_ HB)); replace HB := M_ (bS_ HB hb); clear hb ho0) | ((with_reducible refine gc_ 17 ?_); refine gM_ (some 172) Tryz.func17 #[.slice Ao105 t695.length co105, .int .i64 t696] ?_; (with_reducible refine (spec_SoundingAt.calls kj55 _ _ t695 t696 t703 t704 _ ?side1 ?side2 A86.out).mono ?_); (case side1 => exact cU_ (Kd.R_reads' HO698.out).2.2); (case side2 => exact (Kd.R_reads' HO698.out).2.1); rintro e w107 ⟨v705, rfl, ho0, hb⟩; refine ⟨_, rfl, ?_⟩; replace HO698 := M_ (rB_ HO698 hb); have HO706 := M_ (Kd.R_lower (Kd.R_new' ho0 (rl_ HO702)) (bZ_ HB)); replace HO702 := M_ (re_ HO702 ho0 hb); replace HB := M_ (bS_ HB hb); clear hb ho0) | ((with_reducible refine gc_ 18 ?_); refine gM_ (some 176) Tryz.func18 #[.slice A1 l1.length c1] ?_; (with_reducible refine (spec_DrawPitchName.calls _ _ l1 t707 _ ?side1 ?side2 A87.out).mono ?_); (case side1 => exact cU_ (Kd.C_below HR1.out HB.out)); (case side2 => exact HC1.out); rintro e w108 ⟨rfl, hb⟩; refine ⟨_, rfl, ?_⟩; replace HO698 := M_ (rB_ HO698 hb); replace HO702 := M_ (rB_ HO702 hb); replace HO706 := M_ (rB_ HO706 hb); replace HB := M_ (bS_ HB hb); clear hb) | ((with_reducible refine gc_ 19 ?_); refine gM_ (some 179) Tryz.func19 #[.int .i64 t707] ?_; (with_reducible refine (impl_PitchName.calls t707 t708 t709 _ A88.out).mono ?_); rintro e w109 ⟨rfl, hb⟩; refine ⟨_, rfl, ?_⟩; replace HO698 := M_ (rB_ HO698 hb); replace HO702 := M_ (rB_ HO702 hb); replace HO706 := M_ (rB_ HO706 hb); replace HB := M_ (bS_ HB hb); clear hb) | ((with_reducible refine gc_ 20 ?_); refine gM_ (some 184) Tryz.func20 #[.int .i64 t707] ?_; (with_reducible refine (spec_PitchName.calls kj55 t707 t710 t711 _ A89.out).mono ?_); rintro e w110 ⟨rfl, hb⟩; refine ⟨_, rfl, ?_⟩; replace HO698 := M_ (rB_ HO698 hb); replace HO702 := M_ (rB_ HO702 hb); replace HO706 := M_ (rB_ HO706 hb); replace HB := M_ (bS_ HB hb); clear hb) | ((with_reducible refine gc_ 21 ?_); refine gM_ (some 188) Tryz.func21 #[.slice A1 l1.length c1] ?_; (with_reducible refine (spec_DrawParseScore.calls kj55 _ _ l1 t712 _ ?side1 ?side2 A90.out).mono ?_); (case side1 => exact cU_ (Kd.C_below HR1.out HB.out)); (case side2 => exact HC1.out); rintro e w111 ⟨rfl, hb⟩; refine ⟨_, rfl, ?_⟩; replace HO698 := M_ (rB_ HO698 hb); replace HO702 := M_ (rB_ HO702 hb); replace HO706 := M_ (rB_ HO706 hb); replace HB := M_ (bS_ HB hb); clear hb) | ((with_reducible refine gc_ 22 ?_); refine gM_ (some 191) Tryz.func22 #[.string t712] ?_; (with_reducible refine (impl_ParseScore.calls kj55 t712 t713 t714 _ (someInt_ HM.out (bU_ HB)) A91.out).mono ?_); rintro e w112 ⟨v715, rfl, ho0, hb⟩; refine ⟨_, rfl, ?_⟩; replace HO702 := M_ (rB_ HO702 hb); replace HO706 := M_ (rB_ HO706 hb); have HO716 := M_ (Kd.R_lower (Kd.R_new' ho0 (rl_ HO698)) (bZ_ HB)); replace HO698 := M_ (re_ HO698 ho0 hb); replace HB := M_ (bS_ HB hb); clear hb ho0) | ((with_reducible refine gc_ 23 ?_); refine gM_ (some 196) Tryz.func23 #[.string t712] ?_; (with_reducible refine (spec_ParseScore.calls kj55 t712 t717 t718 _ A92.out).mono ?_); rintro e w113 ⟨v719, rfl, ho0, hb⟩; refine ⟨_, rfl, ?_⟩; replace HO702 := M_ (rB_ HO702 hb); replace HO706 := M_ (rB_ HO706 hb); have HO720 := M_ (Kd.R_lower (Kd.R_new' (Kd.R_new' ho0 (rl_ HO698)) (rl_ HO716)) (bZ_ HB)); replace HO698 := M_ (re_ HO698 ho0 hb); replace HO716 := M_ (re_ HO716 ho0 hb); replace HB := M_ (bS_ HB hb); clear hb ho0) | ((with_reducible refine gc_ 24 ?_); refine gM_ (some 200) Tryz.func24 #[.slice A1 l1.length c1] ?_; (with_reducible refine (spec_DrawIsNote.calls _ _ l1 t721 t722 t723 _ ?side1 ?side2 A93.out).mono ?_); (case side1 => exact cU_ (Kd.C_below HR1.out HB.out)); (case side2 => exact HC1.out); rintro e w114 ⟨rfl, hb⟩; refine ⟨_, rfl, ?_⟩; replace HO698 := M_ (rB_ HO698 hb); replace HO702 := M_ (rB_ HO702 hb); replace HO706 := M_ (rB_ HO706 hb); replace HO716 := M_ (rB_ HO716 hb); replace HO720 := M_ (rB_ HO720 hb); replace HB := M_ (bS_ HB hb); clear hb) | ((with_reducible refine gate_dst (N := 39) rfl ?_); (try (refine gate_guard (by rfl) ?_; dsimp only)); refine bx_ (N := 39) (cs := #[.int .i64 0, .int .i64 0, .int .i64 0]) (t := 31) ?_; intro gb724 hg w115 hbox hb; replace HO698 := M_ (rb_ (Kd.R_elderB (rU_ HO698.out) gb724 (Nat.le_of_eq hg.symm)) hb); replace HO702 := M_ (rB_ HO702 hb); replace HO706 := M_ (rB_ HO706 hb); replace HO716 := M_ (rb_ (Kd.R_elderB (rU_ HO716.out) gb724 (Nat.le_of_eq hg.symm)) hb); replace HO720 := M_ (rb_ (Kd.R_elderB (rU_ HO720.out) gb724 (Nat.le_of_eq hg.symm)) hb); have BK724 := M_ (hbox); have GW724 := M_ (gw_ HB hg); have GE724 := M_ (gw_ HB hg); replace HB := M_ (bS_ HB hb); clear hb hbox hg; obtain ⟨hcz116_0, hcz116_1, hcz116_2, hfz116_0, hfz116_1, hfz116_2⟩ := bq3_ BK724))
                have n0_ : Aside0 (Kd.R k31 31 (((w115.setCell ⟨gb724, 0, none⟩ (.int .i64 t721)).setCell ⟨gb724, 1, none⟩ (.int .i64 t722)).setCell ⟨gb724, 2, none⟩ (.int .i64 t723)) w.heap.size (fun k_ => some k_ ≠ (v715 : Value).ownBlock ∧ some k_ ≠ (v719 : Value).ownBlock ∧ k_ ≠ gb724) (.slice Ao105 t695.length co105) t695) := ⟨by (with_reducible repeat (first | apply ra_ | apply rn_ | apply rd_)); exact rm_ (Kd.R_far (p := ⟨gb724, 2, none⟩) (Kd.R_far (p := ⟨gb724, 1, none⟩) (Kd.R_far (p := ⟨gb724, 0, none⟩) (rm_ HO698.out (fun k_ hk => (⟨hk, hk.2⟩ : _ ∧ k_ ≠ gb724))) (fun _ hk => hk.2) (.int .i64 t721)) (fun _ hk => hk.2) (.int .i64 t722)) (fun _ hk => hk.2) (.int .i64 t723)) (fun _ hk => ⟨hk.1.1.1.2, ⟨hk.1.1.2, hk.1.2⟩⟩)⟩
                have n1_ : Aside0 (Kd.R (Kd.int .i64) 3 (((w115.setCell ⟨gb724, 0, none⟩ (.int .i64 t721)).setCell ⟨gb724, 1, none⟩ (.int .i64 t722)).setCell ⟨gb724, 2, none⟩ (.int .i64 t723)) w.heap.size (fun k_ => some k_ ≠ (v705 : Value).ownBlock) v701 t699) := ⟨by (with_reducible repeat (first | apply ra_ | apply rn_ | apply rd_)); exact rm_ (Kd.R_far (p := ⟨gb724, 2, none⟩) (Kd.R_far (p := ⟨gb724, 1, none⟩) (Kd.R_far (p := ⟨gb724, 0, none⟩) (rt_ HO702.out BK724.out (by decide)) (fun _ hk => hk.2) (.int .i64 t721)) (fun _ hk => hk.2) (.int .i64 t722)) (fun _ hk => hk.2) (.int .i64 t723)) (fun _ hk => hk.1.2)⟩
                have n2_ : Aside0 (Kd.R (Kd.int .i64) 3 (((w115.setCell ⟨gb724, 0, none⟩ (.int .i64 t721)).setCell ⟨gb724, 1, none⟩ (.int .i64 t722)).setCell ⟨gb724, 2, none⟩ (.int .i64 t723)) w.heap.size (fun k_ => some k_ ≠ (v701 : Value).ownBlock) v705 t703) := ⟨by (with_reducible repeat (first | apply ra_ | apply rn_ | apply rd_)); exact rm_ (Kd.R_far (p := ⟨gb724, 2, none⟩) (Kd.R_far (p := ⟨gb724, 1, none⟩) (Kd.R_far (p := ⟨gb724, 0, none⟩) (rt_ HO706.out BK724.out (by decide)) (fun _ hk => hk.2) (.int .i64 t721)) (fun _ hk => hk.2) (.int .i64 t722)) (fun _ hk => hk.2) (.int .i64 t723)) (fun _ hk => hk.1.2)⟩
                have n3_ : Aside0 (Kd.R k31 31 (((w115.setCell ⟨gb724, 0, none⟩ (.int .i64 t721)).setCell ⟨gb724, 1, none⟩ (.int .i64 t722)).setCell ⟨gb724, 2, none⟩ (.int .i64 t723)) w.heap.size (fun k_ => some k_ ≠ (.slice Ao105 t695.length co105 : Value).ownBlock ∧ some k_ ≠ (v719 : Value).ownBlock ∧ k_ ≠ gb724) v715 t713) := ⟨by (with_reducible repeat (first | apply ra_ | apply rn_ | apply rd_)); exact rm_ (Kd.R_far (p := ⟨gb724, 2, none⟩) (Kd.R_far (p := ⟨gb724, 1, none⟩) (Kd.R_far (p := ⟨gb724, 0, none⟩) (rm_ HO716.out (fun k_ hk => (⟨hk, hk.2⟩ : _ ∧ k_ ≠ gb724))) (fun _ hk => hk.2) (.int .i64 t721)) (fun _ hk => hk.2) (.int .i64 t722)) (fun _ hk => hk.2) (.int .i64 t723)) (fun _ hk => ⟨hk.1.1.1.2, ⟨hk.1.1.2, hk.1.2⟩⟩)⟩
                have n4_ : Aside0 (Kd.R k31 31 (((w115.setCell ⟨gb724, 0, none⟩ (.int .i64 t721)).setCell ⟨gb724, 1, none⟩ (.int .i64 t722)).setCell ⟨gb724, 2, none⟩ (.int .i64 t723)) w.heap.size (fun k_ => some k_ ≠ (.slice Ao105 t695.length co105 : Value).ownBlock ∧ some k_ ≠ (v715 : Value).ownBlock ∧ k_ ≠ gb724) v719 t717) := ⟨by (with_reducible repeat (first | apply ra_ | apply rn_ | apply rd_)); exact rm_ (Kd.R_far (p := ⟨gb724, 2, none⟩) (Kd.R_far (p := ⟨gb724, 1, none⟩) (Kd.R_far (p := ⟨gb724, 0, none⟩) (rm_ HO720.out (fun k_ hk => (⟨hk, hk.2⟩ : _ ∧ k_ ≠ gb724))) (fun _ hk => hk.2) (.int .i64 t721)) (fun _ hk => hk.2) (.int .i64 t722)) (fun _ hk => hk.2) (.int .i64 t723)) (fun _ hk => ⟨hk.1.1.1.2, ⟨hk.1.1.2, hk.1.2⟩⟩)⟩
                have n5_ : Aside0 ((((w115.setCell ⟨gb724, 0, none⟩ (.int .i64 t721)).setCell ⟨gb724, 1, none⟩ (.int .i64 t722)).setCell ⟨gb724, 2, none⟩ (.int .i64 t723)).heap[gb724]? = some (.cells #[.int .i64 t721, .int .i64 t722, .int .i64 t723] 31 (0, 0))) := ⟨by (with_reducible repeat (first | refine kn_ ?_ _ | refine kd_ ?_ | refine ka_ ?_ _)); refine blk_put (cs := #[.int .i64 t721, .int .i64 t722, .int .i64 0]) ?_ 2 _ rfl; (with_reducible repeat (first | refine kn_ ?_ _ | refine kd_ ?_ | refine ka_ ?_ _)); refine blk_put (cs := #[.int .i64 t721, .int .i64 0, .int .i64 0]) ?_ 1 _ rfl; (with_reducible repeat (first | refine kn_ ?_ _ | refine kd_ ?_ | refine ka_ ?_ _)); refine blk_put (cs := #[.int .i64 0, .int .i64 0, .int .i64 0]) ?_ 0 _ rfl; (with_reducible repeat (first | refine kn_ ?_ _ | refine kd_ ?_ | refine ka_ ?_ _)); exact BK724.out⟩
                have n6_ : Aside0 (Below w.heap.size w (((w115.setCell ⟨gb724, 0, none⟩ (.int .i64 t721)).setCell ⟨gb724, 1, none⟩ (.int .i64 t722)).setCell ⟨gb724, 2, none⟩ (.int .i64 t723))) := ⟨bU_ HB⟩
                (try clear HO698)
                (try clear HO702)
                (try clear HO706)
                (try clear HO716)
                (try clear HO720)
                (try clear BK724)
                (try clear HB);generalize (((w115.setCell ⟨gb724, 0, none⟩ (.int .i64 t721)).setCell ⟨gb724, 1, none⟩ (.int .i64 t722)).setCell ⟨gb724, 2, none⟩ (.int .i64 t723)) = w117 at n0_ n1_ n2_ n3_ n4_ n5_ n6_ ⊢;have HO698 := n0_;have HO702 := n1_;have HO706 := n2_;have HO716 := n3_;have HO720 := n4_;have BK724 := n5_;have HB := n6_;clear n0_ n1_ n2_ n3_ n4_ n5_ n6_;replace HO698 := M_ (rd_ HO698.out); replace HO702 := M_ (rd_ HO702.out); replace HO706 := M_ (rd_ HO706.out); replace HO716 := M_ (rd_ HO716.out); replace HO720 := M_ (rd_ HO720.out); replace BK724 := M_ (kd_ BK724.out); replace HB := M_ (b1_ HB.out);obtain ⟨Ao119, co119, eo119⟩ := Kd.R_slice HO702.out
                (first | subst eo119 | (injection eo119 with f1_ f2_ f3_; have f4_ := f1_.symm; have f5_ := f3_.symm; clear f1_ f2_ f3_; subst f4_; subst f5_))
                obtain ⟨Ao120, co120, eo120⟩ := Kd.R_slice HO706.out
                (first | subst eo120 | (injection eo120 with f1_ f2_ f3_; have f4_ := f1_.symm; have f5_ := f3_.symm; clear f1_ f2_ f3_; subst f4_; subst f5_))
                refine start_ (n := 36) (S := fun w' => w'.cell? ⟨gb724, 0, none⟩ = some (.int .i64 t721) ∧ w'.cell? ⟨gb724, 1, none⟩ = some (.int .i64 t722) ∧ w'.cell? ⟨gb724, 2, none⟩ = some (.int .i64 t723)) (ds := []) #[F,F,F,F,F,F,F,F,F,F,F,F,F,F,F,F,F,F,F,F,F,F,F,F,F,F,F,F,F,F,F,F,F,F,F,F] (by kernel_rfl) rfl rfl ⟨bc0_ BK724, bc1_ BK724, bc2_ BK724⟩ (fun hHeld => ?_); refine with_tabW laws_FnNotes.tab39 laws_FnNotes.bits39 (fun HT_ HW_ => ?_);generalize w117.drew = w118 at HO698 HO702 HO706 HO716 HO720 BK724 HB hHeld ⊢;refine pR_ (i := 0) (N := some 201) #[T,F,F,F,F,F,F,F,F,F,F,F,F,F,F,F,F,F,F,F,F,F,F,F,F,F,F,F,F,F,F,F,F,F,F,F] ?_;refine pR_ (i := 1) (N := some 202) #[T,T,F,F,F,F,F,F,F,F,F,F,F,F,F,F,F,F,F,F,F,F,F,F,F,F,F,F,F,F,F,F,F,F,F,F] ?_;refine pR_ (i := 2) (N := some 203) #[T,T,T,F,F,F,F,F,F,F,F,F,F,F,F,F,F,F,F,F,F,F,F,F,F,F,F,F,F,F,F,F,F,F,F,F] ?_;refine pR_ (i := 3) (N := some 204) #[T,T,T,T,F,F,F,F,F,F,F,F,F,F,F,F,F,F,F,F,F,F,F,F,F,F,F,F,F,F,F,F,F,F,F,F] ?_;refine pR_ (i := 4) (N := some 205) #[T,T,T,T,T,F,F,F,F,F,F,F,F,F,F,F,F,F,F,F,F,F,F,F,F,F,F,F,F,F,F,F,F,F,F,F] ?_;refine pR_ (i := 5) (N := some 206) #[T,T,T,T,T,T,F,F,F,F,F,F,F,F,F,F,F,F,F,F,F,F,F,F,F,F,F,F,F,F,F,F,F,F,F,F] ?_;refine one_ (i := 6) (N := some 207) #[T,T,T,T,T,T,T,F,F,F,F,F,F,F,F,F,F,F,F,F,F,F,F,F,F,F,F,F,F,F,F,F,F,F,F,F] rfl rfl (one_of HT_.out (by kernel_rfl)) (by decide) (fun K hK => ?_);refine gS_ Tryz.func25 #[.slice Ao119 t699.length co119, .slice Ao120 t703.length co120] ?_
                with_reducible refine (laws_sameInts.calls kj55 _ _ t699 _ _ t703 true _ ?side1 ?side2 ?side3 ?side4 A95.out).mono ?_
                (case side1 => exact cU_ (Kd.R_reads' HO702.out).2.2)
                (case side2 => exact (Kd.R_reads' HO702.out).2.1)
                (case side3 => exact cU_ (Kd.R_reads' HO706.out).2.2)
                (case side4 => exact (Kd.R_reads' HO706.out).2.1)
                rintro e w' ⟨rfl, ⟨nd, rfl⟩⟩;refine ⟨_, rfl, ?_⟩;obtain ⟨Ao121, co121, eo121⟩ := Kd.R_slice HO716.out
                (first | subst eo121 | (injection eo121 with f1_ f2_ f3_; have f4_ := f1_.symm; have f5_ := f3_.symm; clear f1_ f2_ f3_; subst f4_; subst f5_))
                obtain ⟨Ao122, co122, eo122⟩ := Kd.R_slice HO720.out
                (first | subst eo122 | (injection eo122 with f1_ f2_ f3_; have f4_ := f1_.symm; have f5_ := f3_.symm; clear f1_ f2_ f3_; subst f4_; subst f5_))
                refine hK.out _ _ ⟨bc0_ BK724, bc1_ BK724, bc2_ BK724⟩ (fun hHeld => ?_);clear hK K;refine nM_ (some 207) ?_;refine pR_ (i := 7) (N := some 208) #[T,T,T,T,T,T,T,T,F,F,F,F,F,F,F,F,F,F,F,F,F,F,F,F,F,F,F,F,F,F,F,F,F,F,F,F] ?_;refine pR_ (i := 8) (N := some 209) #[T,T,T,T,T,T,T,T,T,F,F,F,F,F,F,F,F,F,F,F,F,F,F,F,F,F,F,F,F,F,F,F,F,F,F,F] ?_;refine pR_ (i := 9) (N := some 210) #[T,T,T,T,T,T,T,T,T,T,F,F,F,F,F,F,F,F,F,F,F,F,F,F,F,F,F,F,F,F,F,F,F,F,F,F] ?_;refine pR_ (i := 10) (N := some 211) #[T,T,T,T,T,T,T,T,T,T,T,F,F,F,F,F,F,F,F,F,F,F,F,F,F,F,F,F,F,F,F,F,F,F,F,F] ?_;refine pR_ (i := 11) (N := some 212) #[T,T,T,T,T,T,T,T,T,T,T,T,F,F,F,F,F,F,F,F,F,F,F,F,F,F,F,F,F,F,F,F,F,F,F,F] ?_;refine pR_ (i := 12) (N := some 213) #[T,T,T,T,T,T,T,T,T,T,T,T,T,F,F,F,F,F,F,F,F,F,F,F,F,F,F,F,F,F,F,F,F,F,F,F] ?_;refine pR_ (i := 13) (N := some 214) #[T,T,T,T,T,T,T,T,T,T,T,T,T,T,F,F,F,F,F,F,F,F,F,F,F,F,F,F,F,F,F,F,F,F,F,F] ?_;refine pR_ (i := 14) (N := some 215) #[T,T,T,T,T,T,T,T,T,T,T,T,T,T,T,F,F,F,F,F,F,F,F,F,F,F,F,F,F,F,F,F,F,F,F,F] ?_;refine pR_ (i := 15) (N := some 216) #[T,T,T,T,T,T,T,T,T,T,T,T,T,T,T,T,F,F,F,F,F,F,F,F,F,F,F,F,F,F,F,F,F,F,F,F] ?_;refine pR_ (i := 16) (N := some 217) #[T,T,T,T,T,T,T,T,T,T,T,T,T,T,T,T,T,F,F,F,F,F,F,F,F,F,F,F,F,F,F,F,F,F,F,F] ?_;refine pR_ (i := 17) (N := some 218) #[T,T,T,T,T,T,T,T,T,T,T,T,T,T,T,T,T,T,F,F,F,F,F,F,F,F,F,F,F,F,F,F,F,F,F,F] ?_;refine pR_ (i := 18) (N := some 219) #[T,T,T,T,T,T,T,T,T,T,T,T,T,T,T,T,T,T,T,F,F,F,F,F,F,F,F,F,F,F,F,F,F,F,F,F] ?_;refine pR_ (i := 19) (N := some 220) #[T,T,T,T,T,T,T,T,T,T,T,T,T,T,T,T,T,T,T,T,F,F,F,F,F,F,F,F,F,F,F,F,F,F,F,F] ?_;refine pR_ (i := 20) (N := some 221) #[T,T,T,T,T,T,T,T,T,T,T,T,T,T,T,T,T,T,T,T,T,F,F,F,F,F,F,F,F,F,F,F,F,F,F,F] ?_;refine pR_ (i := 21) (N := some 222) #[T,T,T,T,T,T,T,T,T,T,T,T,T,T,T,T,T,T,T,T,T,T,F,F,F,F,F,F,F,F,F,F,F,F,F,F] ?_;refine pR_ (i := 22) (N := some 223) #[T,T,T,T,T,T,T,T,T,T,T,T,T,T,T,T,T,T,T,T,T,T,T,F,F,F,F,F,F,F,F,F,F,F,F,F] ?_;refine pR_ (i := 23) (N := some 224) #[T,T,T,T,T,T,T,T,T,T,T,T,T,T,T,T,T,T,T,T,T,T,T,T,F,F,F,F,F,F,F,F,F,F,F,F] ?_;refine pR_ (i := 24) (N := some 225) #[T,T,T,T,T,T,T,T,T,T,T,T,T,T,T,T,T,T,T,T,T,T,T,T,T,F,F,F,F,F,F,F,F,F,F,F] ?_;refine pR_ (i := 25) (N := some 226) #[T,T,T,T,T,T,T,T,T,T,T,T,T,T,T,T,T,T,T,T,T,T,T,T,T,T,F,F,F,F,F,F,F,F,F,F] ?_;refine one_ (i := 26) (N := some 227) #[T,T,T,T,T,T,T,T,T,T,T,T,T,T,T,T,T,T,T,T,T,T,T,T,T,T,T,F,F,F,F,F,F,F,F,F] rfl rfl (one_of HT_.out (by kernel_rfl)) (by decide) (fun K hK => ?_);refine gS_ Tryz.func9 #[.slice Ao121 t713.length co121, .slice Ao122 t717.length co122] ?_
                with_reducible refine (laws_pSameNotes.calls kj55 _ _ t713 _ _ t717 true _ ?side1 ?side2 ?side3 ?side4 A100.out).mono ?_
                (case side1 => exact cU_ (Kd.R_reads' HO716.out).2.2)
                (case side2 => exact (Kd.R_reads' HO716.out).2.1)
                (case side3 => exact cU_ (Kd.R_reads' HO720.out).2.2)
                (case side4 => exact (Kd.R_reads' HO720.out).2.1)
                rintro e w' ⟨rfl, ⟨nd, rfl⟩⟩;refine ⟨_, rfl, ?_⟩;refine hK.out _ _ ⟨bc0_ BK724, bc1_ BK724, bc2_ BK724⟩ (fun hHeld => ?_);clear hK K;refine nM_ (some 227) ?_;refine pR_ (i := 27) (N := some 228) #[T,T,T,T,T,T,T,T,T,T,T,T,T,T,T,T,T,T,T,T,T,T,T,T,T,T,T,T,F,F,F,F,F,F,F,F] ?_;refine pR_ (i := 28) (N := some 229) #[T,T,T,T,T,T,T,T,T,T,T,T,T,T,T,T,T,T,T,T,T,T,T,T,T,T,T,T,T,F,F,F,F,F,F,F] ?_;refine take_ (i := 29) (N := some 230) (v := ?_) (a' := ?_) #[T,T,T,T,T,T,T,T,T,T,T,T,T,T,T,T,T,T,T,T,T,T,T,T,T,T,T,T,T,T,F,F,F,F,F,F] rfl rfl (take_ofW HT_.out HW_.out (by kernel_rfl)) (fun _ _ _ h => h) (Or.inl ⟨by rfl, ?_⟩) hHeld ?_ ?_;rotate_left
                ·rintro w' ⟨s0, s1, s2⟩
                 go_simp;with_reducible rfl
                rotate_left
                ·simp only [Act.put, la_, lb_, lc_, i64_w, i32_w]
                 rfl
                refine take_ (i := 31) (N := some 232) (v := ?_) (a' := ?_) #[T,T,T,T,T,T,T,T,T,T,T,T,T,T,T,T,T,T,T,T,T,T,T,T,T,T,T,T,T,T,F,T,F,F,F,F] rfl rfl (take_ofW HT_.out HW_.out (by kernel_rfl)) (fun _ _ _ h => h) (Or.inl ⟨by rfl, ?_⟩) hHeld ?_ ?_;rotate_left
                ·rintro w' ⟨s0, s1, s2⟩
                 go_simp;with_reducible rfl
                rotate_left
                ·simp only [Act.put, la_, lb_, lc_, i64_w, i32_w]
                 rfl
                refine one_ (i := 30) (N := some 231) #[T,T,T,T,T,T,T,T,T,T,T,T,T,T,T,T,T,T,T,T,T,T,T,T,T,T,T,T,T,T,T,T,F,F,F,F] rfl rfl (one_of HT_.out (by kernel_rfl)) (by decide) (fun K hK => ?_);refine gS_ Tryz.func11 #[.agg #[.int .i64 t721, .int .i64 t722, .int .i64 t723]] ?_
                with_reducible refine (impl_IsNote.calls t721 t722 t723 t727 _ A102.out).mono ?_
                rintro e w123 ⟨rfl, hb⟩;refine ⟨_, rfl, ?_⟩;replace HO698 := M_ (rB_ HO698 hb); replace HO702 := M_ (rB_ HO702 hb); replace HO706 := M_ (rB_ HO706 hb); replace HO716 := M_ (rB_ HO716 hb); replace HO720 := M_ (rB_ HO720 hb); replace BK724 := M_ (kb_ BK724 hb); replace HB := M_ (bS_ HB hb);clear hb;refine hK.out _ _ ⟨bc0_ BK724, bc1_ BK724, bc2_ BK724⟩ (fun hHeld => ?_);clear hK K;refine nM_ (some 231) ?_;refine one_ (i := 32) (N := some 233) #[T,T,T,T,T,T,T,T,T,T,T,T,T,T,T,T,T,T,T,T,T,T,T,T,T,T,T,T,T,T,T,T,T,F,F,F] rfl rfl (one_of HT_.out (by kernel_rfl)) (by decide) (fun K hK => ?_);refine gS_ Tryz.func26 #[.agg #[.int .i64 t721, .int .i64 t722, .int .i64 t723]] ?_
                with_reducible refine (spec_IsNote.calls t721 t722 t723 t728 _ A103.out).mono ?_
                rintro e w124 ⟨rfl, hb⟩;refine ⟨_, rfl, ?_⟩;replace HO698 := M_ (rB_ HO698 hb); replace HO702 := M_ (rB_ HO702 hb); replace HO706 := M_ (rB_ HO706 hb); replace HO716 := M_ (rB_ HO716 hb); replace HO720 := M_ (rB_ HO720 hb); replace BK724 := M_ (kb_ BK724 hb); replace HB := M_ (bS_ HB hb);clear hb;refine hK.out _ _ ⟨bc0_ BK724, bc1_ BK724, bc2_ BK724⟩ (fun hHeld => ?_);clear hK K;refine nM_ (some 233) ?_;refine pR_ (i := 33) (N := some 234) #[T,T,T,T,T,T,T,T,T,T,T,T,T,T,T,T,T,T,T,T,T,T,T,T,T,T,T,T,T,T,T,T,T,T,F,F] ?_;refine pR_ (i := 34) (N := some 235) #[T,T,T,T,T,T,T,T,T,T,T,T,T,T,T,T,T,T,T,T,T,T,T,T,T,T,T,T,T,T,T,T,T,T,T,F] ?_;refine pR_ (i := 35) (N := some 4) #[T,T,T,T,T,T,T,T,T,T,T,T,T,T,T,T,T,T,T,T,T,T,T,T,T,T,T,T,T,T,T,T,T,T,T,T] ?_;refine done_ (done_of HT_.out (by kernel_rfl)) ?_
                try go_wp2
                go_ret
                exact ⟨eR_, bU_ HB⟩
               ·replace c101 := Bool.eq_false_iff.mpr c101
                subst c101
                have H1 : (some false) = some r := by rw [if_neg (show ¬ (false = true) by decide)] at H; exact H
                exact (df_ hrt_ H1).elim
              ·rw [if_neg c99] at H
               exact (df_ hrt_ H).elim
             ·rw [if_neg c98] at H
              exact (df_ hrt_ H).elim
            ·rw [if_neg c97] at H
             exact (df_ hrt_ H).elim
           ·replace c96 := Bool.eq_false_iff.mpr c96
            subst c96
            have H1 : (some false) = some r := by rw [if_neg (show ¬ (false = true) by decide)] at H; exact H
            exact (df_ hrt_ H1).elim
          ·rw [if_neg c94] at H
           exact (df_ hrt_ H).elim
theorem laws_FnNotes.walk (P : laws_FnNotes.Pure) (a0 : Option Addr) (len0 cap0 : Nat) (z0 : List Int) (a1 : Option Addr) (len1 cap1 : Nat) (z1 : List Int) (w : World) (w0 : (a0 = none ∧ len0 = 0 ∧ cap0 = 0 ∧ z0 = []) ∨ ∃ x, a0 = some x ∧ len0 ≤ cap0 ∧ cap0 ≤ maxLen ∧ z0.length = cap0 ∧ (∀ i, i < z0.length → w.cell? (x.add i) = some (.int .u8 (z0.getD i 0))) ∧ ∀ n ∈ z0, (Lit.int .u8 n).wf = true) (y0 : len0 * 1 ≤ 140737488351232) (w1 : (a1 = none ∧ len1 = 0 ∧ cap1 = 0 ∧ z1 = []) ∨ ∃ x, a1 = some x ∧ len1 ≤ cap1 ∧ cap1 ≤ maxLen ∧ z1.length = cap1 ∧ (∀ i, i < z1.length → w.cell? (x.add i) = some (.int .u8 (z1.getD i 0))) ∧ ∀ n ∈ z1, (Lit.int .u8 n).wf = true) (y1 : len1 * 1 ≤ 140737488351232) (hM : ∃ m, w.cell? ⟨0, 0, none⟩ = some (.int .i64 m)) :
  Calls Tryz.prog 3 #[.slice a0 len0 cap0, .slice a1 len1 cap1] w fun e w' => e = .returned (.bool true) ∧ Below w.heap.size w w' := by
 obtain ⟨l0, rfl, hr0, hm0, hw0, hc0⟩ := ReadsInt.ofRowC w0;obtain ⟨l1, rfl, hr1, hm1, hw1, hc1⟩ := ReadsInt.ofRowC w1;obtain ⟨k, h⟩ := P l0 l1 hm0 y0 hw0 hm1 y1 hw1;refine (laws_FnNotes.calls k _ _ l0 _ _ l1 true w rfl (Kd.C_of_reads (d := (0 : Int)) (h1 := fun _ => rfl) hr0) hc0 (Kd.C_of_reads (d := (0 : Int)) (h1 := fun _ => rfl) hr1) hc1 hM h).mono ?_;rintro e w' ⟨rfl, hd⟩;exact ⟨rfl, hd⟩

end Go.Proofs.YtfpfjnmjekjnhaaGreatDoor.PFnNotes
