-- by wip/xprint.py, over the kit's printer
import Derived.Test.YtfpfjnmjekjnhaaGreatDoorPFnScoresx0
import Derived.Test.YtfpfjnmjekjnhaaGreatDoorPFnScoresx2
import Derived.Test.YtfpfjnmjekjnhaaGreatDoorPFnScoresx3
import Derived.Test.YtfpfjnmjekjnhaaGreatDoorPFnScoresx4
namespace Go.Proofs.YtfpfjnmjekjnhaaGreatDoor.PFnScores
open Go.RowKit Go.Proofs.YtfpfjnmjekjnhaaGreatDoorW.PrintWords Go.Proofs.YtfpfjnmjekjnhaaGreatDoorW.PrintLast Go.Proofs.YtfpfjnmjekjnhaaGreatDoorW.PrintMore
attribute [local go_sem] max2_int min2_int max_two min_two max_three min_three max_four min_four   -- for this text's walks alone
set_option linter.unusedVariables false
set_option linter.unusedSimpArgs false

mutual
def impl_SoundingAt.j0 : Nat → List (S31) → Int → Bool → Option (List Int × Bool)
 | 0, _, _, _ => none
 | k + 1, x0, x1, x19 => if x19 = true then (some (([] : List Int), false)) else (impl_SoundingAt.l0 k x1 (([] : List Int)) x0 (x0.length : Int) 0)
def impl_SoundingAt.l0 : Nat → Int → List Int → List (S31) → Int → Int → Option (List Int × Bool)
 | 0, _, _, _, _, _ => none
 | k + 1, x1, x6, x21, x22, x23 => if x23 < x22 then (if 0 ≤ x23 then (if x23 < (x21.length : Int) then (if ((rd_T31 x21 x23).f1) ≤ x1 then ((impl_noteEnd.f ((rd_T31 x21 x23).f0) ((rd_T31 x21 x23).f1) ((rd_T31 x21 x23).f2)).bind fun t140 => (if x1 < t140 then (if x6.length < 17592186044416 then (impl_SoundingAt.l0 k x1 (x6 ++ [(rd_T31 x21 x23).f0]) x21 x22 (wrap64 (x23 + 1))) else (none)) else (impl_SoundingAt.l0 k x1 x6 x21 x22 (wrap64 (x23 + 1))))) else (impl_SoundingAt.l0 k x1 x6 x21 x22 (wrap64 (x23 + 1)))) else (none)) else (none)) else ((sort_Ints.f x6).bind fun t144 => (some (t144, true)))
end
def impl_SoundingAt.f (k : Nat) (l0 : List (S31)) (a1 : Int) : Option (List Int × Bool) := (impl_IsScore.f k l0).bind fun t134 => (if t134 = true then (if a1 < 0 then (impl_SoundingAt.j0 k l0 a1 true) else (impl_SoundingAt.j0 k l0 a1 (decide (a1 > 1099)))) else (impl_SoundingAt.j0 k l0 a1 true))
theorem impl_SoundingAt.mono_l : ∀ k, (∀ y0 y1 y2, LeO (impl_SoundingAt.j0 k y0 y1 y2) (impl_SoundingAt.j0 (k + 1) y0 y1 y2)) ∧ (∀ y0 y1 y2 y3 y4, LeO (impl_SoundingAt.l0 k y0 y1 y2 y3 y4) (impl_SoundingAt.l0 (k + 1) y0 y1 y2 y3 y4))
 | 0 => ⟨fun _ _ _ r h => by simp [impl_SoundingAt.j0] at h, fun _ _ _ _ _ r h => by simp [impl_SoundingAt.l0] at h⟩
 | k + 1 => by
  obtain ⟨ih0, ih1⟩ := impl_SoundingAt.mono_l k;refine ⟨?_, ?_⟩
  ·intro y0 y1 y2
   unfold impl_SoundingAt.j0
   have m0_ := @impl_IsScore.mono;exact mo_
  ·intro y0 y1 y2 y3 y4
   unfold impl_SoundingAt.l0
   have m0_ := @impl_IsScore.mono;exact mo_
theorem impl_SoundingAt.mono : ∀ a0 a1 k, LeO (impl_SoundingAt.f k a0 a1) (impl_SoundingAt.f (k + 1) a0 a1) := by
 intro a0 a1 k;obtain ⟨ih0, ih1⟩ := impl_SoundingAt.mono_l k
 unfold impl_SoundingAt.f
 have m0_ := @impl_IsScore.mono;exact mo_
set_option maxHeartbeats 8000000 in
set_option maxRecDepth 100000 in
theorem impl_SoundingAt.calls (k : Nat) (A0 : Option Addr) (c0 : Nat) (l0 : List (S31)) (a1 : Int) (r1 : List Int) (r2 : Bool) (w : World) (hr0 : Kd.C k31 w A0 l0.length l0) (hc0 : l0.length ≤ c0) (h : impl_SoundingAt.f k l0 a1 = some (r1, r2)) :
  Calls Tryz.prog 16 #[.slice A0 l0.length c0, .int .i64 a1] w fun e w' => ∃ v0_ : Value, e = .returned (.tuple #[v0_, .bool r2]) ∧ Kd.R (Kd.int .i64) 3 w' w.heap.size (fun _ => True) v0_ r1 ∧ Below w.heap.size w w' := by
 have hu31 := Tryz.underlying31;have HR0 := M_ hr0;have HC0 := M_ hc0;clear hr0 hc0;have HB := M_ (Below.refl w.heap.size w)
 have H : ((impl_IsScore.f k l0).bind fun t134 => (if t134 = true then (if a1 < 0 then (impl_SoundingAt.j0 k l0 a1 true) else (impl_SoundingAt.j0 k l0 a1 (decide (a1 > 1099)))) else (impl_SoundingAt.j0 k l0 a1 true))) = some (r1, r2) := h
 clear h;have HC3 := M_ H;clear H
 go_enter Tryz.func16, Tryz.ntmps16
 go_upto_region 1 with (fail)
 go_cut [19] (fun v19 wc => ∃ (kq : Nat) (x19_2 : Bool), v19 = .bool x19_2 ∧ Aside0 (impl_SoundingAt.j0 kq l0 a1 x19_2 = some (r1, r2)) ∧ Aside0 (kq ≤ k) ∧ Aside0 (Below w.heap.size w wc))
 case first =>
  have H := HC3.out;clear HC3;replace H := Option.bind_eq_some_iff.mp H;obtain ⟨t134, A40, H⟩ := H;(try dsimp only at H);have A4 := M_ A40;clear A40
  by_cases c5 : t134 = true
  ·subst c5
   rw [if_pos rfl] at H
   by_cases c6 : a1 < 0
   focus
    rw [if_pos c6] at H
    have c6b0 : decide (a1 < 0) = true := decide_eq_true c6
   rotate_left
   focus
    rw [if_neg c6] at H
    have c6b0 : decide (a1 < 0) = false := decide_eq_false c6
   rotate_left
   all_goals
    clear c6
    (first | rw [c6b0] | (simp only [i64_w, i32_w]; rw [c6b0]) | skip)
    have H' := M_ H
    clear H
    go_wp2_with (first | ((with_reducible refine gc_ 10 ?_); refine gM_ (some 10) Tryz.func10 #[.slice A0 l0.length c0] ?_; (with_reducible refine (impl_IsScore.calls k _ _ l0 true _ ?side1 ?side2 A4.out).mono ?_); (case side1 => exact cU_ (Kd.C_below HR0.out HB.out)); (case side2 => exact HC0.out); rintro e w7 ⟨rfl, hb⟩; refine ⟨_, rfl, ?_⟩; replace HB := M_ (bS_ HB hb); clear hb))
    go_meet
   ·case rel => exact ⟨_, (true), eD_, H', ⟨by first | omega | exact Nat.le_refl _⟩, ⟨bU_ HB⟩⟩
   ·case rel => exact ⟨_, (decide (a1 > 1099)), eD_, H', ⟨by first | omega | exact Nat.le_refl _⟩, ⟨bU_ HB⟩⟩
  ·replace c5 := Bool.eq_false_iff.mpr c5
   subst c5
   rw [if_neg (show ¬ (false = true) by decide)] at H
   have H' := M_ H
   clear H
   go_wp2_with (first | ((with_reducible refine gc_ 10 ?_); refine gM_ (some 10) Tryz.func10 #[.slice A0 l0.length c0] ?_; (with_reducible refine (impl_IsScore.calls k _ _ l0 false _ ?side1 ?side2 A4.out).mono ?_); (case side1 => exact cU_ (Kd.C_below HR0.out HB.out)); (case side2 => exact HC0.out); rintro e w9 ⟨rfl, hb⟩; refine ⟨_, rfl, ?_⟩; replace HB := M_ (bS_ HB hb); clear hb))
   go_meet
   case rel => exact ⟨_, (true), eD_, H', ⟨by first | omega | exact Nat.le_refl _⟩, ⟨bU_ HB⟩⟩
 case rest =>
  clear HC3;obtain ⟨kq, x19_2, rfl, HA, HJ2, HB⟩ := hcut
  cases kq with
  | zero => exact absurd HA.out (by simp [impl_SoundingAt.j0])
  | succ kj2 =>
   have H := HA.out;clear HA;simp only [impl_SoundingAt.j0] at H
   by_cases c10 : x19_2 = true
   focus
    subst c10
    rw [if_pos rfl] at H
    simp only [Option.some.injEq, Prod.mk.injEq] at H;obtain ⟨rfl, rfl⟩ := H
   rotate_left
   focus
    replace c10 := Bool.eq_false_iff.mpr c10
    subst c10
    rw [if_neg (show ¬ (false = true) by decide)] at H
    obtain ⟨y135, hy135⟩ : ∃ y_ : List Int, y_ = (([] : List Int)) := ⟨_, rfl⟩
    replace H : (impl_SoundingAt.l0 kj2 a1 y135 l0 (l0.length : Int) 0) = some (r1, r2) := by first | (rw [hy135]; with_reducible exact H) | (have H2_ := (Option.bind_some _ _).symm.trans H; rw [hy135]; with_reducible exact H2_) | (have H2_ := (Option.bind_some _ _).symm.trans H; with_reducible exact H2_) | with_reducible exact H | (rw [hy135]; exact H) | exact H
    have Ny135 := M_ hy135;clear hy135
    have H' := M_ H
    clear H
   rotate_left
   all_goals
    go_wp2_with (first | ((with_reducible refine gate_dst (N := 20) rfl ?_); refine lt_ (Kd.int .i64) 3 (N := 20) (([] : List Int)) [] ri_ ?_; intro v136 w11 ho12 hb hg_ hnew_; clear hg_ hnew_; replace ho12 := rN_ Ny135 ho12; have HO137 := M_ (Kd.R_lower ho12 (bZ_ HB)); replace HB := M_ (bS_ HB hb); clear hb ho12))
   ·go_ret2
    exact ⟨_, eR_, by first | exact Kd.R_nil _ _ _ _ _ | exact Kd.N_nil _ _ _ _ _ | exact Kd.V_nil _ _ _ _ _ | exact Kd.Q_nil _ _ _ _ _ | exact Kd.S_nil _ _ _ _ _, bU_ HB⟩
   ·go_loopg [6, 23] kj2 (fun kq v6 v23 w' => ∃ (x6_2 : List Int) (x23_2 : Int), v23 = .int .i64 x23_2 ∧ Aside0 (impl_SoundingAt.l0 kq a1 x6_2 l0 (l0.length : Int) x23_2 = some (r1, r2)) ∧ Aside0 (kq ≤ kj2) ∧ Aside0 (Kd.R (Kd.int .i64) 3 w' w.heap.size (fun _ => True) v6 x6_2) ∧ Aside0 (Below w.heap.size w w'))
    case atStart => exact ⟨(y135), (0), eD_, H', ⟨Nat.le_refl _⟩, ⟨rU_ HO137.out⟩, ⟨bU_ HB⟩⟩
    case round =>
     clear H';obtain ⟨x6_2, x23_2, rfl, HA, HK2, HO_6, HB⟩ := hrel
     cases gk with
     | zero => exact absurd HA.out (by simp [impl_SoundingAt.l0])
     | succ k2 =>
      have H := HA.out;clear HA;simp only [impl_SoundingAt.l0] at H
      by_cases c13 : x23_2 < (l0.length : Int)
      ·rw [if_pos c13] at H
       have c13b0 : decide (x23_2 < (l0.length : Int)) = true := decide_eq_true c13
       clear c13
       by_cases c14 : 0 ≤ x23_2
       ·rw [if_pos c14] at H
        have c14b0 : decide (0 ≤ x23_2) = true := decide_eq_true c14
        clear c14
        by_cases c15 : x23_2 < (l0.length : Int)
        ·rw [if_pos c15] at H
         have c15b0 : decide (x23_2 < (l0.length : Int)) = true := decide_eq_true c15
         clear c15
         by_cases c16 : ((rd_T31 l0 x23_2).f1) ≤ a1
         ·rw [if_pos c16] at H
          have c16b0 : decide (((rd_T31 l0 x23_2).f1) ≤ a1) = true := decide_eq_true c16
          clear c16;replace H := Option.bind_eq_some_iff.mp H;obtain ⟨t140, A170, H⟩ := H;(try dsimp only at H);have A17 := M_ A170;clear A170
          by_cases c18 : a1 < t140
          ·rw [if_pos c18] at H
           have c18b0 : decide (a1 < t140) = true := decide_eq_true c18
           clear c18
           by_cases c19 : x6_2.length < 17592186044416
           ·rw [if_pos c19] at H
            have LMc19 := M_ c19;clear c19;obtain ⟨y141, hy141⟩ : ∃ y_ : List Int, y_ = (x6_2 ++ [(rd_T31 l0 x23_2).f0]) := ⟨_, rfl⟩
            replace H : (impl_SoundingAt.l0 k2 a1 y141 l0 (l0.length : Int) (wrap64 (x23_2 + 1))) = some (r1, r2) := by first | (rw [hy141]; with_reducible exact H) | (have H2_ := (Option.bind_some _ _).symm.trans H; rw [hy141]; with_reducible exact H2_) | (have H2_ := (Option.bind_some _ _).symm.trans H; with_reducible exact H2_) | with_reducible exact H | (rw [hy141]; exact H) | exact H
            have Ny141 := M_ hy141;clear hy141
            have H' := M_ H
            clear H
            have p138 : 0 ≤ (x23_2 : Int) := dT_
            have q138 : x23_2 < (l0.length : Int) := dT_
            obtain ⟨ad138, e138, hx138_0, hx138_1, hx138_2⟩ := at_T31 HR0.out x23_2 p138 q138;cases e138;replace hx138_0 := (HB.out.cell (World.block_lt_of_cell? w _ hx138_0)).trans hx138_0;replace hx138_1 := (HB.out.cell (World.block_lt_of_cell? w _ hx138_1)).trans hx138_1;replace hx138_2 := (HB.out.cell (World.block_lt_of_cell? w _ hx138_2)).trans hx138_2;replace p138 := eq_true p138;replace q138 := eq_true q138
            go_wp2_with (first | ((with_reducible refine gate_dst (N := 8) rfl ?_); refine bx_ (N := 8) (cs := #[.int .i64 0, .int .i64 0, .int .i64 0]) (t := 31) ?_; intro gb139 hg w20 hbox hb; replace HO_6 := M_ (rB_ HO_6 hb); have BK139 := M_ (hbox); have GW139 := M_ (gw_ HB hg); have GE139 := M_ (gw_ HB hg); replace HB := M_ (bS_ HB hb); clear hb hbox hg; obtain ⟨hcz21_0, hcz21_1, hcz21_2, hfz21_0, hfz21_1, hfz21_2⟩ := bq3_ BK139) | (go_at_call 47; (with_reducible refine (impl_noteEnd.calls ((rd_T31 l0 x23_2).f0) ((rd_T31 l0 x23_2).f1) ((rd_T31 l0 x23_2).f2) t140 _ A17.out).mono ?_); rintro e w22 ⟨rfl, hb⟩; replace HO_6 := M_ (rb_ (rU_ ((rm_ (Kd.R_far (p := ⟨gb139, 2, none⟩) (Kd.R_far (p := ⟨gb139, 1, none⟩) (Kd.R_far (p := ⟨gb139, 0, none⟩) (rt_ HO_6.out BK139.out (by decide)) (fun _ hk => hk.2) (.int .i64 ((rd_T31 l0 x23_2).f0))) (fun _ hk => hk.2) (.int .i64 ((rd_T31 l0 x23_2).f1))) (fun _ hk => hk.2) (.int .i64 ((rd_T31 l0 x23_2).f2))) (fun _ h_ => h_.1)))) hb); replace BK139 := M_ (blk_below (g := gb139) (o := .cells #[.int .i64 ((rd_T31 l0 x23_2).f0), .int .i64 ((rd_T31 l0 x23_2).f1), .int .i64 ((rd_T31 l0 x23_2).f2)] 31 (0, 0)) (by (with_reducible repeat (first | refine kn_ ?_ _ | refine kd_ ?_ | refine ka_ ?_ _)); refine blk_put (cs := #[.int .i64 ((rd_T31 l0 x23_2).f0), .int .i64 ((rd_T31 l0 x23_2).f1), .int .i64 0]) ?_ 2 _ rfl; (with_reducible repeat (first | refine kn_ ?_ _ | refine kd_ ?_ | refine ka_ ?_ _)); refine blk_put (cs := #[.int .i64 ((rd_T31 l0 x23_2).f0), .int .i64 0, .int .i64 0]) ?_ 1 _ rfl; (with_reducible repeat (first | refine kn_ ?_ _ | refine kd_ ?_ | refine ka_ ?_ _)); refine blk_put (cs := #[.int .i64 0, .int .i64 0, .int .i64 0]) ?_ 0 _ rfl; (with_reducible repeat (first | refine kn_ ?_ _ | refine kd_ ?_ | refine ka_ ?_ _)); exact BK139.out) hb); replace HB := M_ (bS_ HB hb); clear hb; obtain ⟨hcz23_0, hcz23_1, hcz23_2, hfz23_0, hfz23_1, hfz23_2⟩ := bq3_ BK139) | ((with_reducible refine gate_builtin (b := .append) (xs := #[.tmp 37, .tmp 40]) rfl ?_); at_builtin; refine Kd.R_append (Kd.int .i64) (w0 := w) w.heap.size rfl (.tmp 37) (.tmp 40) 38 3 (.int .i64 0) 8 rfl Tryz.underlying38 info3 rfl (by decide) (by omega) u6 x6_2 ((rd_T31 l0 x23_2).f0) [.int .i64 ((rd_T31 l0 x23_2).f0)] (fun _ => True) (fun _ => False) rfl rfl ?aP (fun _ hk => hk.elim) ?aF ?aO ?aB ?aS ?aL ?_; (case aP => exact rfl); (case aB => exact (bU_ HB)); (case aF => exact (fun _ _ => trivial)); (case aO => exact (rU_ HO_6.out)); (case aS => exact (bZ_ HB)); (case aL => have := LMc19.out; omega); intro v142 w24 ho hb hg hat; rw [← Ny141.out] at ho; replace BK139 := M_ (kg_ BK139 hg (Kd.R_ne HO_6.out BK139.out (by decide))); replace HB := M_ (hb); have HO143 := M_ (ho); clear HO_6; clear ho hb hg hat))
            go_roundg k2
            case measure => have := HJ2.out; have := HK2.out; omega
            case rel => exact ⟨(y141), (wrap64 (x23_2 + 1)), eD_, H', ⟨by have := HJ2.out; have := HK2.out; omega⟩, ⟨rU_ HO143.out⟩, ⟨bU_ HB⟩⟩
           ·rw [if_neg c19] at H
            exact absurd H (by simp)
          ·rw [if_neg c18] at H
           have c18b0 : decide (a1 < t140) = false := decide_eq_false c18
           clear c18
           have H' := M_ H
           clear H
           have p138 : 0 ≤ (x23_2 : Int) := dT_
           have q138 : x23_2 < (l0.length : Int) := dT_
           obtain ⟨ad138, e138, hx138_0, hx138_1, hx138_2⟩ := at_T31 HR0.out x23_2 p138 q138;cases e138;replace hx138_0 := (HB.out.cell (World.block_lt_of_cell? w _ hx138_0)).trans hx138_0;replace hx138_1 := (HB.out.cell (World.block_lt_of_cell? w _ hx138_1)).trans hx138_1;replace hx138_2 := (HB.out.cell (World.block_lt_of_cell? w _ hx138_2)).trans hx138_2;replace p138 := eq_true p138;replace q138 := eq_true q138
           go_wp2_with (first | ((with_reducible refine gate_dst (N := 8) rfl ?_); refine bx_ (N := 8) (cs := #[.int .i64 0, .int .i64 0, .int .i64 0]) (t := 31) ?_; intro gb139 hg w25 hbox hb; replace HO_6 := M_ (rB_ HO_6 hb); have BK139 := M_ (hbox); have GW139 := M_ (gw_ HB hg); have GE139 := M_ (gw_ HB hg); replace HB := M_ (bS_ HB hb); clear hb hbox hg; obtain ⟨hcz26_0, hcz26_1, hcz26_2, hfz26_0, hfz26_1, hfz26_2⟩ := bq3_ BK139) | (go_at_call 47; (with_reducible refine (impl_noteEnd.calls ((rd_T31 l0 x23_2).f0) ((rd_T31 l0 x23_2).f1) ((rd_T31 l0 x23_2).f2) t140 _ A17.out).mono ?_); rintro e w27 ⟨rfl, hb⟩; replace HO_6 := M_ (rb_ (rU_ ((rm_ (Kd.R_far (p := ⟨gb139, 2, none⟩) (Kd.R_far (p := ⟨gb139, 1, none⟩) (Kd.R_far (p := ⟨gb139, 0, none⟩) (rt_ HO_6.out BK139.out (by decide)) (fun _ hk => hk.2) (.int .i64 ((rd_T31 l0 x23_2).f0))) (fun _ hk => hk.2) (.int .i64 ((rd_T31 l0 x23_2).f1))) (fun _ hk => hk.2) (.int .i64 ((rd_T31 l0 x23_2).f2))) (fun _ h_ => h_.1)))) hb); replace BK139 := M_ (blk_below (g := gb139) (o := .cells #[.int .i64 ((rd_T31 l0 x23_2).f0), .int .i64 ((rd_T31 l0 x23_2).f1), .int .i64 ((rd_T31 l0 x23_2).f2)] 31 (0, 0)) (by (with_reducible repeat (first | refine kn_ ?_ _ | refine kd_ ?_ | refine ka_ ?_ _)); refine blk_put (cs := #[.int .i64 ((rd_T31 l0 x23_2).f0), .int .i64 ((rd_T31 l0 x23_2).f1), .int .i64 0]) ?_ 2 _ rfl; (with_reducible repeat (first | refine kn_ ?_ _ | refine kd_ ?_ | refine ka_ ?_ _)); refine blk_put (cs := #[.int .i64 ((rd_T31 l0 x23_2).f0), .int .i64 0, .int .i64 0]) ?_ 1 _ rfl; (with_reducible repeat (first | refine kn_ ?_ _ | refine kd_ ?_ | refine ka_ ?_ _)); refine blk_put (cs := #[.int .i64 0, .int .i64 0, .int .i64 0]) ?_ 0 _ rfl; (with_reducible repeat (first | refine kn_ ?_ _ | refine kd_ ?_ | refine ka_ ?_ _)); exact BK139.out) hb); replace HB := M_ (bS_ HB hb); clear hb))
           go_roundg k2
           case measure => have := HJ2.out; have := HK2.out; omega
           case rel => exact ⟨(x6_2), (wrap64 (x23_2 + 1)), eD_, H', ⟨by have := HJ2.out; have := HK2.out; omega⟩, ⟨rU_ HO_6.out⟩, ⟨bU_ HB⟩⟩
         ·rw [if_neg c16] at H
          have c16b0 : decide (((rd_T31 l0 x23_2).f1) ≤ a1) = false := decide_eq_false c16
          clear c16
          have H' := M_ H
          clear H
          have p138 : 0 ≤ (x23_2 : Int) := dT_
          have q138 : x23_2 < (l0.length : Int) := dT_
          obtain ⟨ad138, e138, hx138_0, hx138_1, hx138_2⟩ := at_T31 HR0.out x23_2 p138 q138;cases e138;replace hx138_0 := (HB.out.cell (World.block_lt_of_cell? w _ hx138_0)).trans hx138_0;replace hx138_1 := (HB.out.cell (World.block_lt_of_cell? w _ hx138_1)).trans hx138_1;replace hx138_2 := (HB.out.cell (World.block_lt_of_cell? w _ hx138_2)).trans hx138_2;replace p138 := eq_true p138;replace q138 := eq_true q138
          go_wp2_with (first | ((with_reducible refine gate_dst (N := 8) rfl ?_); refine bx_ (N := 8) (cs := #[.int .i64 0, .int .i64 0, .int .i64 0]) (t := 31) ?_; intro gb139 hg w28 hbox hb; replace HO_6 := M_ (rB_ HO_6 hb); have BK139 := M_ (hbox); have GW139 := M_ (gw_ HB hg); have GE139 := M_ (gw_ HB hg); replace HB := M_ (bS_ HB hb); clear hb hbox hg; obtain ⟨hcz29_0, hcz29_1, hcz29_2, hfz29_0, hfz29_1, hfz29_2⟩ := bq3_ BK139))
          go_roundg k2
          case measure => have := HJ2.out; have := HK2.out; omega
          case rel => exact ⟨(x6_2), (wrap64 (x23_2 + 1)), eD_, H', ⟨by have := HJ2.out; have := HK2.out; omega⟩, ⟨by (with_reducible repeat (first | apply ra_ | apply rn_ | apply rd_)); exact rm_ (Kd.R_far (p := ⟨gb139, 2, none⟩) (Kd.R_far (p := ⟨gb139, 1, none⟩) (Kd.R_far (p := ⟨gb139, 0, none⟩) (rt_ HO_6.out BK139.out (by decide)) (fun _ hk => hk.2) (.int .i64 ((rd_T31 l0 x23_2).f0))) (fun _ hk => hk.2) (.int .i64 ((rd_T31 l0 x23_2).f1))) (fun _ hk => hk.2) (.int .i64 ((rd_T31 l0 x23_2).f2))) (fun _ hk => trivial)⟩, ⟨bU_ HB⟩⟩
        ·rw [if_neg c15] at H
         exact absurd H (by simp)
       ·rw [if_neg c14] at H
        exact absurd H (by simp)
      ·rw [if_neg c13] at H
       have c13b0 : decide (x23_2 < (l0.length : Int)) = false := decide_eq_false c13
       clear c13;replace H := Option.bind_eq_some_iff.mp H;obtain ⟨t144, A300, H⟩ := H;replace H : (some (t144, true)) = some (r1, r2) := H;have A30 := M_ A300;clear A300;simp only [Option.some.injEq, Prod.mk.injEq] at H;obtain ⟨rfl, rfl⟩ := H;obtain ⟨Ao31, co31, eo31⟩ := Kd.R_slice HO_6.out;subst eo31
       go_wp2_with (first | ((with_reducible refine gc_ 51 ?_); refine gM_ (some 44) Tryz.func51 #[.slice Ao31 x6_2.length co31] ?_; (with_reducible refine (sort_Ints.calls (fun k_ => some k_ = (.slice Ao31 x6_2.length co31 : Value).ownBlock) (.slice Ao31 x6_2.length co31) x6_2 t144 w _ ?side1 ?side2 A30.out).mono ?_); (case side1 => exact bU_ HB); (case side2 => exact Kd.R_tight rfl HO_6.out); rintro e w32 ⟨rfl, hy0, hb, hkp⟩; refine ⟨_, rfl, ?_⟩; replace HO_6 := M_ (Kd.R_reok rfl hy0 (fun k_ e_ => HO_6.out.1 k_ e_)); replace HB := M_ (hb); (try clear hb); (try clear hkp); (try clear hy0)))
       go_ret2
       exact ⟨_, eR_, rU_ HO_6.out, bU_ HB⟩
def stringslite_HasSuffix.f (a0 : ByteArray) (a1 : ByteArray) : Option (Bool) := if (a0.size : Int) ≥ (a1.size : Int) then (if 0 ≤ (wrap64 ((a0.size : Int) - (a1.size : Int))) then (if (wrap64 ((a0.size : Int) - (a1.size : Int))) ≤ (a0.size : Int) then (some ((a0.extract ((wrap64 ((a0.size : Int) - (a1.size : Int))) : Int).toNat a0.size).toList == a1.toList)) else (none)) else (none)) else (some false)
set_option maxHeartbeats 8000000 in
set_option maxRecDepth 100000 in
theorem stringslite_HasSuffix.calls (a0 : ByteArray) (a1 : ByteArray) (r : Bool) (w : World) (h : stringslite_HasSuffix.f a0 a1 = some r) :
  Calls Tryz.prog 104 #[.string a0, .string a1] w fun e w' => e = .returned (.bool r) ∧ Drawn0 w w' := by
 have H : (if (a0.size : Int) ≥ (a1.size : Int) then (if 0 ≤ (wrap64 ((a0.size : Int) - (a1.size : Int))) then (if (wrap64 ((a0.size : Int) - (a1.size : Int))) ≤ (a0.size : Int) then (some ((a0.extract ((wrap64 ((a0.size : Int) - (a1.size : Int))) : Int).toNat a0.size).toList == a1.toList)) else (none)) else (none)) else (some false)) = some r := h
 clear h
 by_cases c3 : (a0.size : Int) ≥ (a1.size : Int)
 ·rw [if_pos c3] at H
  have c3b0 : decide ((a1.size : Int) ≤ (a0.size : Int)) = true := decide_eq_true c3
  have c3b1 : decide (a1.size ≤ a0.size) = true := decide_eq_true (Int.ofNat_le.mp c3)
  clear c3;obtain ⟨ji4, hji4⟩ : ∃ j_ : Int, (wrap64 ((a0.size : Int) - (a1.size : Int))) = j_ := ⟨_, rfl⟩
  replace H : (if 0 ≤ (ji4) then (if (ji4) ≤ (a0.size : Int) then (some ((a0.extract ((ji4) : Int).toNat a0.size).toList == a1.toList)) else (none)) else (none)) = some r := by first | (rw [hji4] at H; exact H) | (simp only [hji4] at H ⊢; exact H)
  have hji4w : (IntKind.i64.wrap ((a0.size : Int) - (a1.size : Int))) = ji4 := (i64_w _).trans hji4
  by_cases c5 : 0 ≤ (ji4)
  ·rw [if_pos c5] at H
   have c5b0 := eq_true c5
   have c5b1 : decide (0 ≤ (ji4)) = true := decide_eq_true c5
   clear c5
   by_cases c6 : (ji4) ≤ (a0.size : Int)
   ·rw [if_pos c6] at H
    have c6b0 := eq_true c6
    have c6b1 : decide ((ji4) ≤ (a0.size : Int)) = true := decide_eq_true c6
    clear c6;obtain rfl := Option.some.inj H
    go_enter Tryz.func104, Tryz.ntmps104
    go_wp2
    go_ret
    exact ⟨by first | rfl | (simp; done) | (simp only [← hji4] <;> (first | rfl | simp)) | (simp [*]; done), by repeat (first | exact Drawn0.refl _ | apply Drawn0.step)⟩
   ·rw [if_neg c6] at H
    exact absurd H (by simp)
  ·rw [if_neg c5] at H
   exact absurd H (by simp)
 ·rw [if_neg c3] at H
  have c3b0 : decide ((a1.size : Int) ≤ (a0.size : Int)) = false := decide_eq_false c3
  have c3b1 : decide (a1.size ≤ a0.size) = false := decide_eq_false (fun h => c3 (Int.ofNat_le.mpr h))
  clear c3;obtain rfl := Option.some.inj H
  go_enter Tryz.func104, Tryz.ntmps104
  go_wp2
  go_ret
  exact ⟨by first | rfl | (simp; done) | (simp [*]; done), by repeat (first | exact Drawn0.refl _ | apply Drawn0.step)⟩
def strings_HasSuffix.f (a0 : ByteArray) (a1 : ByteArray) : Option (Bool) := (stringslite_HasSuffix.f a0 a1).bind fun t145 => (some t145)
set_option maxHeartbeats 8000000 in
set_option maxRecDepth 100000 in
theorem strings_HasSuffix.calls (a0 : ByteArray) (a1 : ByteArray) (r : Bool) (w : World) (h : strings_HasSuffix.f a0 a1 = some r) :
  Calls Tryz.prog 88 #[.string a0, .string a1] w fun e w' => e = .returned (.bool r) ∧ Drawn0 w w' := by
 have H : ((stringslite_HasSuffix.f a0 a1).bind fun t145 => (some t145)) = some r := h
 clear h;replace H := Option.bind_eq_some_iff.mp H;obtain ⟨t145, A30, H⟩ := H;replace H : (some t145) = some r := H;have A3 := M_ A30;clear A30;obtain rfl := Option.some.inj H
 go_enter Tryz.func88, Tryz.ntmps88
 go_wp2_with (first | ((with_reducible refine gc_ 104 ?_); refine gM_ (some 7) Tryz.func104 #[.string a0, .string a1] ?_; (with_reducible refine (stringslite_HasSuffix.calls a0 a1 t145 _ A3.out).mono ?_); rintro e w' ⟨rfl, ⟨nd, rfl⟩⟩; refine ⟨_, rfl, ?_⟩))
 go_ret
 exact ⟨by first | rfl | (simp; done) | (simp [*]; done), by repeat (first | exact Drawn0.refl _ | apply Drawn0.step)⟩
-- NOT PRINTED: function 151 (utf8_RuneCountInString)

-- NOT PRINTED: function 163 (utf8_decodeRuneInStringSlow)

-- NOT PRINTED: function 152 (utf8_DecodeRuneInString)

-- NOT PRINTED: function 132 (strings_explode)

-- NOT PRINTED: function 154 (bytealg_IndexByteString)

-- NOT PRINTED: function 135 (stringslite_IndexByte)

-- NOT PRINTED: function 136 (bytealg_IndexString)

-- NOT PRINTED: function 137 (bytealg_Cutover)

-- NOT PRINTED: function 155 (bytealg_hashStr_string)

-- NOT PRINTED: function 138 (bytealg_IndexRabinKarp_string)

-- NOT PRINTED: function 106 (stringslite_Index)

-- NOT PRINTED: function 134 (strings_Index)

-- NOT PRINTED: function 153 (bytealg_CountString)

-- NOT PRINTED: function 133 (strings_Count)

-- NOT PRINTED: function 105 (strings_genSplit)

-- XNAME strings_Split strings_Split
-- XSHELF
-- XSPL
theorem someInt_ {w w' : World} {a : Addr} {kk : IntKind} (h : ∃ m, w.cell? a = some (.int kk m)) (hb : Below w.heap.size w w') : ∃ m, w'.cell? a = some (.int kk m) := by
 obtain ⟨m, hm⟩ := h;exact ⟨m, (hb.cell (World.block_lt_of_cell? w _ hm)).trans hm⟩
def strings_Split.f (a0 : ByteArray) (a1 : ByteArray) : Option (List ByteArray) := if 1 ≤ a1.size then (if a0.size < 4294967281 then some (Lib.splitB a1 0 (Lib.countB a0 a1) a0) else none) else none
theorem strings_Split.calls (a0 : ByteArray) (a1 : ByteArray) (r : List ByteArray) (w : World) (hM : ∃ m, w.cell? ⟨0, 0, none⟩ = some (.int .i64 m)) (h : strings_Split.f a0 a1 = some r) :
  Calls Tryz.prog 89 #[.string a0, .string a1] w fun e w' => ∃ v0_ : Value, e = .returned (v0_) ∧ Kd.R Kd.string 9 w' w.heap.size (fun _ => True) v0_ r ∧ Below w.heap.size w w' := by
 unfold strings_Split.f at h
 by_cases h0 : 1 ≤ a1.size
 case neg => rw [if_neg h0] at h; cases h
 by_cases h1 : a0.size < 4294967281
 case neg => rw [if_pos h0, if_neg h1] at h; cases h
 rw [if_pos h0, if_pos h1] at h
 obtain rfl := Option.some.inj h;clear h;obtain ⟨m, hm⟩ := hM;refine (Tryz.strings_Split a0 a1 m w h1 hm h0).mono ?_;rintro e w' ⟨rfl, rfl⟩;have hl := Lib.splitB_all a1 h0 0 (Lib.countB a0 a1) a0 rfl;have hle := Lib.countB_le a1 h0 a0.size a0 (Nat.le_refl _);refine ⟨_, rfl, ?_, ba_ (Below.refl _ _) _⟩;have ho := World.ownsRow_lit (e := 9) (size := 1) (base := w.heap.size) w ((Lib.splitB a1 0 (Lib.countB a0 a1) a0).map Value.string).toArray (Lib.countB a0 a1 + 1) (Nat.le_refl _) (by unfold maxLen; omega) (by simp [hl])
 rw [← hl] at ho ⊢
 exact Kd.R_of_own (by simpa [encs] using ho) (fun _ _ => trivial)
def impl_textLines.f (a0 : ByteArray) : Option (List ByteArray × Bool) := if a0.toList = ([] : List UInt8) then (some (([] : List ByteArray), true)) else ((strings_HasSuffix.f a0 (⟨#[10]⟩ : ByteArray)).bind fun t146 => (if t146 = true then (if 0 ≤ (wrap64 ((a0.size : Int) - 1)) then (if (wrap64 ((a0.size : Int) - 1)) ≤ (a0.size : Int) then ((strings_Split.f (a0.extract 0 ((wrap64 ((a0.size : Int) - 1)) : Int).toNat) (⟨#[10]⟩ : ByteArray)).bind fun t147 => (some (t147, true))) else (none)) else (none)) else (some (([] : List ByteArray), false))))
set_option maxHeartbeats 8000000 in
set_option maxRecDepth 100000 in
theorem impl_textLines.calls (a0 : ByteArray) (r1 : List ByteArray) (r2 : Bool) (w : World) (hM : ∃ m, w.cell? ⟨0, 0, none⟩ = some (.int .i64 m)) (h : impl_textLines.f a0 = some (r1, r2)) :
  Calls Tryz.prog 62 #[.string a0] w fun e w' => ∃ v0_ : Value, e = .returned (.tuple #[v0_, .bool r2]) ∧ Kd.R Kd.string 9 w' w.heap.size (fun _ => True) v0_ r1 ∧ Below w.heap.size w w' := by
 have HM := M_ hM;clear hM;have HB := M_ (Below.refl w.heap.size w)
 have H : (if a0.toList = ([] : List UInt8) then (some (([] : List ByteArray), true)) else ((strings_HasSuffix.f a0 (⟨#[10]⟩ : ByteArray)).bind fun t146 => (if t146 = true then (if 0 ≤ (wrap64 ((a0.size : Int) - 1)) then (if (wrap64 ((a0.size : Int) - 1)) ≤ (a0.size : Int) then ((strings_Split.f (a0.extract 0 ((wrap64 ((a0.size : Int) - 1)) : Int).toNat) (⟨#[10]⟩ : ByteArray)).bind fun t147 => (some (t147, true))) else (none)) else (none)) else (some (([] : List ByteArray), false))))) = some (r1, r2) := h
 clear h
 by_cases c2 : a0.toList = ([] : List UInt8)
 ·rw [if_pos c2] at H
  have c2b0 : (a0.toList == ([] : List UInt8)) = true := beq_iff_eq.mpr c2
  have c2b1 : (a0.toList != ([] : List UInt8)) = false := bne_eq_false_iff_eq.mpr c2
  clear c2;simp only [Option.some.injEq, Prod.mk.injEq] at H;obtain ⟨rfl, rfl⟩ := H
  go_enter Tryz.func62, Tryz.ntmps62
  go_wp2
  go_ret2
  exact ⟨_, eR_, by first | exact Kd.R_nil _ _ _ _ _ | exact Kd.N_nil _ _ _ _ _ | exact Kd.V_nil _ _ _ _ _ | exact Kd.Q_nil _ _ _ _ _ | exact Kd.S_nil _ _ _ _ _, bU_ HB⟩
 ·rw [if_neg c2] at H
  have c2b0 : (a0.toList == ([] : List UInt8)) = false := beq_eq_false_iff_ne.mpr c2
  have c2b1 : (a0.toList != ([] : List UInt8)) = true := bne_iff_ne.mpr c2
  replace H := Option.bind_eq_some_iff.mp H;obtain ⟨t146, A30, H⟩ := H;(try dsimp only at H);have A3 := M_ A30;clear A30
  by_cases c4 : t146 = true
  ·subst c4
   rw [if_pos rfl] at H
   obtain ⟨ji5, hji5⟩ : ∃ j_ : Int, (wrap64 ((a0.size : Int) - 1)) = j_ := ⟨_, rfl⟩
   replace H : (if 0 ≤ (ji5) then (if (ji5) ≤ (a0.size : Int) then ((strings_Split.f (a0.extract 0 ((ji5) : Int).toNat) (⟨#[10]⟩ : ByteArray)).bind fun t147 => (some (t147, true))) else (none)) else (none)) = some (r1, r2) := by first | (rw [hji5] at H; exact H) | (simp only [hji5] at H ⊢; exact H)
   (try rw [hji5] at A3)
   have hji5w : (IntKind.i64.wrap ((a0.size : Int) - 1)) = ji5 := (i64_w _).trans hji5
   by_cases c6 : 0 ≤ (ji5)
   ·rw [if_pos c6] at H
    have c6b0 := eq_true c6
    have c6b1 : decide (0 ≤ (ji5)) = true := decide_eq_true c6
    clear c6
    by_cases c7 : (ji5) ≤ (a0.size : Int)
    ·rw [if_pos c7] at H
     have c7b0 := eq_true c7
     have c7b1 : decide ((ji5) ≤ (a0.size : Int)) = true := decide_eq_true c7
     clear c7;replace H := Option.bind_eq_some_iff.mp H;obtain ⟨t147, A80, H⟩ := H;replace H : (some (t147, true)) = some (r1, r2) := H;have A8 := M_ A80;clear A80;simp only [Option.some.injEq, Prod.mk.injEq] at H;obtain ⟨rfl, rfl⟩ := H
     go_enter Tryz.func62, Tryz.ntmps62
     go_wp2_with (first | ((with_reducible refine gc_ 88 ?_); refine gM_ (some 7) Tryz.func88 #[.string a0, .string (⟨#[10]⟩ : ByteArray)] ?_; (with_reducible refine (strings_HasSuffix.calls a0 (⟨#[10]⟩ : ByteArray) true _ A3.out).mono ?_); rintro e w' ⟨rfl, ⟨nd, rfl⟩⟩; refine ⟨_, rfl, ?_⟩) | ((with_reducible refine gc_ 89 ?_); refine goesL_ (some 14) rfl rfl Tryz.func89 (by kernel_rfl) rfl #[.string (a0.extract 0 ((ji5) : Int).toNat), .string (⟨#[10]⟩ : ByteArray)] rfl (by (try simp only [List.map_toArray, List.map_cons, List.map_nil]); first | done | (simp only [hji5]; rfl) | rfl | (simp only [List.length_drop, List.length_take]; rfl)) ?_; (with_reducible refine (strings_Split.calls (a0.extract 0 ((ji5) : Int).toNat) (⟨#[10]⟩ : ByteArray) t147 _ (someInt_ HM.out (bU_ HB)) A8.out).mono ?_); rintro e w9 ⟨v148, rfl, ho0, hb⟩; refine ⟨_, rfl, ?_⟩; have HO149 := M_ (Kd.R_lower ho0 (bZ_ HB)); replace HB := M_ (bS_ HB hb); clear hb ho0))
     go_ret2
     exact ⟨_, by first | rfl | (simp [errW_none, errW_some] <;> rfl) | (simp only [← hji5]; first | rfl | (simp [errW_none, errW_some] <;> rfl)) | (simp [*, errW_none, errW_some] <;> rfl), rU_ HO149.out, bU_ HB⟩
    ·rw [if_neg c7] at H
     exact absurd H (by simp)
   ·rw [if_neg c6] at H
    exact absurd H (by simp)
  ·replace c4 := Bool.eq_false_iff.mpr c4
   subst c4
   rw [if_neg (show ¬ (false = true) by decide)] at H
   simp only [Option.some.injEq, Prod.mk.injEq] at H;obtain ⟨rfl, rfl⟩ := H
   go_enter Tryz.func62, Tryz.ntmps62
   go_wp2_with (first | ((with_reducible refine gc_ 88 ?_); refine gM_ (some 7) Tryz.func88 #[.string a0, .string (⟨#[10]⟩ : ByteArray)] ?_; (with_reducible refine (strings_HasSuffix.calls a0 (⟨#[10]⟩ : ByteArray) false _ A3.out).mono ?_); rintro e w' ⟨rfl, ⟨nd, rfl⟩⟩; refine ⟨_, rfl, ?_⟩))
   go_ret2
   exact ⟨_, eR_, by first | exact Kd.R_nil _ _ _ _ _ | exact Kd.N_nil _ _ _ _ _ | exact Kd.V_nil _ _ _ _ _ | exact Kd.Q_nil _ _ _ _ _ | exact Kd.S_nil _ _ _ _ _, bU_ HB⟩
-- NOT PRINTED: function 90 (stringslite_Cut)

-- XNAME strings_Cut strings_Cut
-- XSHELF
-- XSPL
def strings_Cut.f (a0 : ByteArray) (a1 : ByteArray) : Option (ByteArray × ByteArray × Bool) := if a0.size < 4294967281 then some (⟨(Lib.cut a0.data.toList a1.data.toList).1.toArray⟩, ⟨(Lib.cut a0.data.toList a1.data.toList).2.1.toArray⟩, (Lib.cut a0.data.toList a1.data.toList).2.2) else none
theorem strings_Cut.calls (a0 : ByteArray) (a1 : ByteArray) (r1 : ByteArray) (r2 : ByteArray) (r3 : Bool) (w : World) (hM : ∃ m, w.cell? ⟨0, 0, none⟩ = some (.int .i64 m)) (h : strings_Cut.f a0 a1 = some (r1, r2, r3)) :
  Calls Tryz.prog 63 #[.string a0, .string a1] w fun e w' => e = .returned (.tuple #[.string r1, .string r2, .bool r3]) ∧ Below w.heap.size w w' := by
 unfold strings_Cut.f at h
 by_cases h1 : a0.size < 4294967281
 case neg => rw [if_neg h1] at h; cases h
 rw [if_pos h1] at h
 simp only [Option.some.injEq, Prod.mk.injEq] at h;obtain ⟨rfl, rfl, rfl⟩ := h;obtain ⟨m, hm⟩ := hM;refine (Tryz.strings_Cut a0 a1 m w h1 hm).mono ?_;rintro e w' ⟨rfl, n, rfl⟩;exact ⟨rfl, bn_ (Below.refl _ _) n⟩
mutual
def impl_decimal.j0 : Nat → ByteArray → Bool → Option (Int × Bool)
 | 0, _, _ => none
 | k + 1, x0, x22 => if x22 = true then (some (0, false)) else (impl_decimal.l0 k x0 0 0)
def impl_decimal.l0 : Nat → ByteArray → Int → Int → Option (Int × Bool)
 | 0, _, _, _ => none
 | k + 1, x0, x4, x5 => if x5 < (x0.size : Int) then (if 0 ≤ x5 then (if (bt x0 x5) < 48 then (some (0, false)) else (if (bt x0 x5) > 57 then (some (0, false)) else (impl_decimal.l0 k x0 (wrap64 ((wrap64 (10 * x4)) + (((bt x0 x5) - 48) % 256))) (wrap64 (x5 + 1))))) else (none)) else (some (x4, true))
end
def impl_decimal.f (k : Nat) (a0 : ByteArray) : Option (Int × Bool) := if a0.toList = ([] : List UInt8) then (impl_decimal.j0 k a0 true) else (if (a0.size : Int) > 9 then (impl_decimal.j0 k a0 true) else (if 0 < (a0.size : Int) then (if (bt a0 0) = 48 then (impl_decimal.j0 k a0 (decide ((a0.size : Int) > 1))) else (impl_decimal.j0 k a0 false)) else (none)))
theorem impl_decimal.mono_l : ∀ k, (∀ y0 y1, LeO (impl_decimal.j0 k y0 y1) (impl_decimal.j0 (k + 1) y0 y1)) ∧ (∀ y0 y1 y2, LeO (impl_decimal.l0 k y0 y1 y2) (impl_decimal.l0 (k + 1) y0 y1 y2))
 | 0 => ⟨fun _ _ r h => by simp [impl_decimal.j0] at h, fun _ _ _ r h => by simp [impl_decimal.l0] at h⟩
 | k + 1 => by
  obtain ⟨ih0, ih1⟩ := impl_decimal.mono_l k;refine ⟨?_, ?_⟩
  ·intro y0 y1
   unfold impl_decimal.j0
   exact mo_
  ·intro y0 y1 y2
   unfold impl_decimal.l0
   exact mo_
theorem impl_decimal.mono : ∀ a0 k, LeO (impl_decimal.f k a0) (impl_decimal.f (k + 1) a0) := by
 intro a0 k;obtain ⟨ih0, ih1⟩ := impl_decimal.mono_l k
 unfold impl_decimal.f
 exact mo_
set_option maxHeartbeats 8000000 in
set_option maxRecDepth 100000 in
theorem impl_decimal.calls (k : Nat) (a0 : ByteArray) (r1 : Int) (r2 : Bool) (w : World) (h : impl_decimal.f k a0 = some (r1, r2)) :
  Calls Tryz.prog 91 #[.string a0] w fun e w' => e = .returned (.tuple #[.int .i64 r1, .bool r2]) ∧ Drawn0 w w' := by
 have H : (if a0.toList = ([] : List UInt8) then (impl_decimal.j0 k a0 true) else (if (a0.size : Int) > 9 then (impl_decimal.j0 k a0 true) else (if 0 < (a0.size : Int) then (if (bt a0 0) = 48 then (impl_decimal.j0 k a0 (decide ((a0.size : Int) > 1))) else (impl_decimal.j0 k a0 false)) else (none)))) = some (r1, r2) := h
 clear h;have HC2 := M_ H;clear H
 go_enter Tryz.func91, Tryz.ntmps91
 go_upto_region 1 with (fail)
 go_cut [22] (fun v22 wc => ∃ (kq : Nat) (x22_1 : Bool), v22 = .bool x22_1 ∧ Aside0 (impl_decimal.j0 kq a0 x22_1 = some (r1, r2)) ∧ Aside0 (kq ≤ k) ∧ Drawn0 w wc)
 case first =>
  have H := HC2.out;clear HC2
  by_cases c3 : a0.toList = ([] : List UInt8)
  ·rw [if_pos c3] at H
   have c3b0 : (a0.toList == ([] : List UInt8)) = true := beq_iff_eq.mpr c3
   have c3b1 : (a0.toList != ([] : List UInt8)) = false := bne_eq_false_iff_eq.mpr c3
   clear c3
   (first | rw [c3b0] | (simp only [i64_w, i32_w]; rw [c3b0]) | skip)
   have H' := M_ H
   clear H
   go_wp2
   go_meet
   case rel => exact ⟨_, (true), eD_, H', ⟨by first | omega | exact Nat.le_refl _⟩, by repeat (first | exact Drawn0.refl _ | apply Drawn0.step)⟩
  ·rw [if_neg c3] at H
   have c3b0 : (a0.toList == ([] : List UInt8)) = false := beq_eq_false_iff_ne.mpr c3
   have c3b1 : (a0.toList != ([] : List UInt8)) = true := bne_iff_ne.mpr c3
   (first | rw [c3b0] | (simp only [i64_w, i32_w]; rw [c3b0]) | skip)
   by_cases c4 : (a0.size : Int) > 9
   ·rw [if_pos c4] at H
    have c4b0 : decide (9 < (a0.size : Int)) = true := decide_eq_true c4
    have c4b1 : decide (9 < a0.size) = true := decide_eq_true (by omega)
    clear c4
    have H' := M_ H
    clear H
    go_wp2
    go_meet
    case rel => exact ⟨_, (true), eD_, H', ⟨by first | omega | exact Nat.le_refl _⟩, by repeat (first | exact Drawn0.refl _ | apply Drawn0.step)⟩
   ·rw [if_neg c4] at H
    have c4b0 : decide (9 < (a0.size : Int)) = false := decide_eq_false c4
    have c4b1 : decide (9 < a0.size) = false := decide_eq_false (by omega)
    clear c4
    by_cases c5 : 0 < (a0.size : Int)
    ·rw [if_pos c5] at H
     have c5b0 : decide (0 < (a0.size : Int)) = true := decide_eq_true c5
     have c5b1 : decide (0 < a0.size) = true := decide_eq_true (by omega)
     clear c5
     by_cases c7 : (bt a0 0) = 48
     focus
      rw [if_pos c7] at H
      have c7b0 : ((bt a0 0) == 48) = true := beq_iff_eq.mpr c7
      have c7b1 : ((bt a0 0) != 48) = false := bne_eq_false_iff_eq.mpr c7
      clear c7
     rotate_left
     focus
      rw [if_neg c7] at H
      have c7b0 : ((bt a0 0) == 48) = false := beq_eq_false_iff_ne.mpr c7
      have c7b1 : ((bt a0 0) != 48) = true := bne_iff_ne.mpr c7
     rotate_left
     all_goals
      have H' := M_ H
      clear H
      have p6 : 0 ≤ (0 : Int) := (by omega)
      have q6 : 0 < a0.size := (by have : (0 : Int) < (a0.size : Int) := dT_; omega)
      have hx6 : ∀ h : 0 < a0.size, ((a0[0]'h).toNat : Int) = bt a0 0 := bt_at a0 0
      clear p6
      have qi6 : (0 < (a0.size : Int)) = True := eq_true (dT_)
      replace q6 := eq_true q6
      go_wp2
      go_meet
     ·case rel => exact ⟨_, (decide ((a0.size : Int) > 1)), eD_, H', ⟨by first | omega | exact Nat.le_refl _⟩, by repeat (first | exact Drawn0.refl _ | apply Drawn0.step)⟩
     ·case rel => exact ⟨_, (false), eD_, H', ⟨by first | omega | exact Nat.le_refl _⟩, by repeat (first | exact Drawn0.refl _ | apply Drawn0.step)⟩
    ·rw [if_neg c5] at H
     exact absurd H (by simp)
 case rest =>
  clear HC2;(try clear qi6);obtain ⟨kq, x22_1, rfl, HA, HJ1, ⟨mc1, rfl⟩⟩ := hcut
  cases kq with
  | zero => exact absurd HA.out (by simp [impl_decimal.j0])
  | succ kj1 =>
   have H := HA.out;clear HA;simp only [impl_decimal.j0] at H
   by_cases c8 : x22_1 = true
   ·subst c8
    rw [if_pos rfl] at H
    simp only [Option.some.injEq, Prod.mk.injEq] at H;obtain ⟨rfl, rfl⟩ := H
    go_wp2
    go_ret2
    exact ⟨by first | rfl | (simp; done) | (simp [*]; done), by repeat (first | exact Drawn0.refl _ | apply Drawn0.step)⟩
   ·replace c8 := Bool.eq_false_iff.mpr c8
    subst c8
    rw [if_neg (show ¬ (false = true) by decide)] at H
    have H' := M_ H
    clear H
    go_wp2
    go_loopg [4, 5] kj1 (fun kq v4 v5 w' => ∃ (x4_2 : Int) (x5_2 : Int), v4 = .int .i64 x4_2 ∧ v5 = .int .i64 x5_2 ∧ Aside0 (impl_decimal.l0 kq a0 x4_2 x5_2 = some (r1, r2)) ∧ Aside0 (kq ≤ kj1) ∧ Drawn0 w w')
    case atStart => exact ⟨(0), (0), eD_, eD_, H', ⟨Nat.le_refl _⟩, by repeat (first | exact Drawn0.refl _ | apply Drawn0.step)⟩
    case round =>
     clear H';(try clear qi6);obtain ⟨x4_2, x5_2, rfl, rfl, HA, HK2, ⟨m2, rfl⟩⟩ := hrel
     cases gk with
     | zero => exact absurd HA.out (by simp [impl_decimal.l0])
     | succ k2 =>
      have H := HA.out;clear HA;simp only [impl_decimal.l0] at H
      by_cases c9 : x5_2 < (a0.size : Int)
      ·rw [if_pos c9] at H
       have c9b0 : decide (x5_2 < (a0.size : Int)) = true := decide_eq_true c9
       clear c9
       by_cases c10 : 0 ≤ x5_2
       ·rw [if_pos c10] at H
        have c10b0 : decide (0 ≤ x5_2) = true := decide_eq_true c10
        clear c10
        by_cases c12 : (bt a0 x5_2) < 48
        ·rw [if_pos c12] at H
         have c12b0 : decide ((bt a0 x5_2) < 48) = true := decide_eq_true c12
         clear c12;simp only [Option.some.injEq, Prod.mk.injEq] at H;obtain ⟨rfl, rfl⟩ := H
         have p11 : 0 ≤ (x5_2 : Int) := dT_
         have q11 : x5_2 < (a0.size : Int) := dT_
         have hx11 := bt_at a0 x5_2;replace p11 := eq_true p11;replace q11 := eq_true q11
         go_wp2
         go_ret2
         exact ⟨by first | rfl | (simp; done) | (simp [*]; done), by repeat (first | exact Drawn0.refl _ | apply Drawn0.step)⟩
        ·rw [if_neg c12] at H
         have c12b0 : decide ((bt a0 x5_2) < 48) = false := decide_eq_false c12
         clear c12
         by_cases c14 : (bt a0 x5_2) > 57
         focus
          rw [if_pos c14] at H
          have c14b0 : decide (57 < (bt a0 x5_2)) = true := decide_eq_true c14
          clear c14;simp only [Option.some.injEq, Prod.mk.injEq] at H;obtain ⟨rfl, rfl⟩ := H
         rotate_left
         focus
          rw [if_neg c14] at H
          have c14b0 : decide (57 < (bt a0 x5_2)) = false := decide_eq_false c14
          clear c14
          have H' := M_ H
          clear H
          have p11 : 0 ≤ (x5_2 : Int) := dT_
          have q11 : x5_2 < (a0.size : Int) := dT_
          have hx11 := bt_at a0 x5_2;replace p11 := eq_true p11;replace q11 := eq_true q11
         rotate_left
         all_goals
          have p11 : 0 ≤ (x5_2 : Int) := dT_
          have q11 : x5_2 < (a0.size : Int) := dT_
          have hx11 := bt_at a0 x5_2;replace p11 := eq_true p11;replace q11 := eq_true q11
          have p13 : 0 ≤ (x5_2 : Int) := dT_
          have q13 : x5_2 < (a0.size : Int) := dT_
          have hx13 := bt_at a0 x5_2;replace p13 := eq_true p13;replace q13 := eq_true q13
          go_wp2
         ·go_ret2
          exact ⟨by first | rfl | (simp; done) | (simp [*]; done), by repeat (first | exact Drawn0.refl _ | apply Drawn0.step)⟩
         ·go_roundg k2
          case measure => have := HJ1.out; have := HK2.out; omega
          case rel => exact ⟨(wrap64 ((wrap64 (10 * x4_2)) + (((bt a0 x5_2) - 48) % 256))), (wrap64 (x5_2 + 1)), eD_, eD_, H', ⟨by have := HJ1.out; have := HK2.out; omega⟩, by repeat (first | exact Drawn0.refl _ | apply Drawn0.step)⟩
       ·rw [if_neg c10] at H
        exact absurd H (by simp)
      ·rw [if_neg c9] at H
       have c9b0 : decide (x5_2 < (a0.size : Int)) = false := decide_eq_false c9
       clear c9;simp only [Option.some.injEq, Prod.mk.injEq] at H;obtain ⟨rfl, rfl⟩ := H
       go_wp2
       go_ret2
       exact ⟨by first | rfl | (simp; done) | (simp [*]; done), by repeat (first | exact Drawn0.refl _ | apply Drawn0.step)⟩
end Go.Proofs.YtfpfjnmjekjnhaaGreatDoor.PFnScores
