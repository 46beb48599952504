-- by wip/xprint.py, over the kit's printer
import Derived.Test.YtgeipgflhjakjaaPFnPlayablex0
import Derived.Test.YtgeipgflhjakjaaPFnPlayablex2
import Derived.Test.YtgeipgflhjakjaaPFnPlayablex6
import Derived.Test.YtgeipgflhjakjaaPFnPlayablex7
namespace Go.Proofs.Ytgeipgflhjakjaa.PFnPlayable
open Go.RowKit Go.Proofs.YtgeipgflhjakjaaW.PrintWords Go.Proofs.YtgeipgflhjakjaaW.PrintLast Go.Proofs.YtgeipgflhjakjaaW.PrintMore
attribute [local go_sem] max2_int min2_int max_two min_two max_three min_three max_four min_four   -- for this text's walks alone
set_option linter.unusedVariables false
set_option linter.unusedSimpArgs false

mutual
def impl_MissingPitches.j0 : Nat → List (S80) → Bool → List Int → Int → Option (List Int × Bool)
 | 0, _, _, _, _ => none
 | k + 1, x1, x16, x225000, x225001 => if x16 = true then (some (([] : List Int), false)) else (impl_MissingPitches.l0 k (([] : List Int)) x1 (x1.length : Int) 0 x225000 x225001)
def impl_MissingPitches.l0 : Nat → List Int → List (S80) → Int → Int → List Int → Int → Option (List Int × Bool)
 | 0, _, _, _, _, _, _ => none
 | k + 1, x6, x18, x19, x20, x225000, x225001 => if x20 < x19 then (if 0 ≤ x20 then (if x20 < (x18.length : Int) then ((slices_Contains_int_int.f k x225000 ((rd_T80 x18 x20).f0)).bind fun t232 => (if t232 = true then (impl_MissingPitches.l0 k x6 x18 x19 (wrap64 (x20 + 1)) x225000 x225001) else (if x6.length < 17592186044416 then (impl_MissingPitches.l0 k (x6 ++ [(rd_T80 x18 x20).f0]) x18 x19 (wrap64 (x20 + 1)) x225000 x225001) else (none)))) else (none)) else (none)) else ((impl_sortedSet.f x6).bind fun t236 => (some (t236, true)))
end
def impl_MissingPitches.f (k : Nat) (l0_0 : List Int) (a0_1 : Int) (l1 : List (S80)) : Option (List Int × Bool) := (impl_IsInstrument.f k l0_0 a0_1).bind fun t225 => (if t225 = true then ((impl_IsScore.f k l1).bind fun t226 => (impl_MissingPitches.j0 k l1 (!t226) l0_0 a0_1)) else (impl_MissingPitches.j0 k l1 true l0_0 a0_1))
theorem impl_MissingPitches.mono_l : ∀ k, (∀ y0 y1 y2 y3, LeO (impl_MissingPitches.j0 k y0 y1 y2 y3) (impl_MissingPitches.j0 (k + 1) y0 y1 y2 y3)) ∧ (∀ y0 y1 y2 y3 y4 y5, LeO (impl_MissingPitches.l0 k y0 y1 y2 y3 y4 y5) (impl_MissingPitches.l0 (k + 1) y0 y1 y2 y3 y4 y5))
 | 0 => ⟨fun _ _ _ _ r h => by simp [impl_MissingPitches.j0] at h, fun _ _ _ _ _ _ r h => by simp [impl_MissingPitches.l0] at h⟩
 | k + 1 => by
  obtain ⟨ih0, ih1⟩ := impl_MissingPitches.mono_l k;refine ⟨?_, ?_⟩
  ·intro y0 y1 y2 y3
   unfold impl_MissingPitches.j0
   have m0_ := @impl_IsInstrument.mono;have m1_ := @impl_IsScore.mono;have m2_ := @slices_Contains_int_int.mono;exact mo_
  ·intro y0 y1 y2 y3 y4 y5
   unfold impl_MissingPitches.l0
   have m0_ := @impl_IsInstrument.mono;have m1_ := @impl_IsScore.mono;have m2_ := @slices_Contains_int_int.mono;exact mo_
theorem impl_MissingPitches.mono : ∀ a0 a1 a2 k, LeO (impl_MissingPitches.f k a0 a1 a2) (impl_MissingPitches.f (k + 1) a0 a1 a2) := by
 intro a0 a1 a2 k;obtain ⟨ih0, ih1⟩ := impl_MissingPitches.mono_l k
 unfold impl_MissingPitches.f
 have m0_ := @impl_IsInstrument.mono;have m1_ := @impl_IsScore.mono;have m2_ := @slices_Contains_int_int.mono;exact mo_
set_option maxHeartbeats 8000000 in
set_option maxRecDepth 100000 in
theorem impl_MissingPitches.calls (k : Nat) (A0_0 : Option Addr) (c0_0 : Nat) (l0_0 : List Int) (a0_1 : Int) (A1 : Option Addr) (c1 : Nat) (l1 : List (S80)) (r1 : List Int) (r2 : Bool) (w : World) (hr0_0 : Kd.C (Kd.int .i64) w A0_0 l0_0.length l0_0) (hc0_0 : l0_0.length ≤ c0_0) (hr1 : Kd.C k80 w A1 l1.length l1) (hc1 : l1.length ≤ c1) (h : impl_MissingPitches.f k l0_0 a0_1 l1 = some (r1, r2)) :
  Calls Try.prog 49 #[.agg #[.slice A0_0 l0_0.length c0_0, .int .i64 a0_1], .slice A1 l1.length c1] w fun e w' => ∃ v0_ : Value, e = .returned (.tuple #[v0_, .bool r2]) ∧ Kd.R (Kd.int .i64) 3 w' w.heap.size (fun _ => True) v0_ r1 ∧ Below w.heap.size w w' := by
 have hu58 := Try.underlying58;have hu80 := Try.underlying80;have HR0_0 := M_ hr0_0;have HC0_0 := M_ hc0_0;clear hr0_0 hc0_0;have HR1 := M_ hr1;have HC1 := M_ hc1;clear hr1 hc1;have HB := M_ (Below.refl w.heap.size w)
 have H : ((impl_IsInstrument.f k l0_0 a0_1).bind fun t225 => (if t225 = true then ((impl_IsScore.f k l1).bind fun t226 => (impl_MissingPitches.j0 k l1 (!t226) l0_0 a0_1)) else (impl_MissingPitches.j0 k l1 true l0_0 a0_1))) = some (r1, r2) := h
 clear h;have HC3 := M_ H;clear H
 go_enter Try.func49, Try.ntmps49
 go_upto_region 1 with (first | ((with_reducible refine gate_dst (N := 2) rfl ?_); refine bx_ (N := 2) (cs := #[.slice A0_0 l0_0.length c0_0, .int .i64 a0_1]) (t := 58) ?_; intro gb224 hg w4 hbox hb; have BK224 := M_ (hbox); have GW224 := M_ (gw_ HB hg); have GE224 := M_ (gw_ HB hg); replace HB := M_ (bS_ HB hb); clear hb hbox hg))
 (try simp only [Act.put, la_, lb_, lc_])
 go_cut [16] (fun v16 wc => ∃ (kq : Nat) (x16_2 : Bool), v16 = .bool x16_2 ∧ Aside0 (impl_MissingPitches.j0 kq l1 x16_2 l0_0 a0_1 = some (r1, r2)) ∧ Aside0 (kq ≤ k) ∧ Aside0 (wc.heap[gb224]? = some (.cells #[(.slice A0_0 l0_0.length c0_0), .int .i64 a0_1] 58 (0, 0))) ∧ Aside0 (Below w.heap.size w wc))
 case first =>
  have H := HC3.out;clear HC3;replace H := Option.bind_eq_some_iff.mp H;obtain ⟨t225, A50, H⟩ := H;(try dsimp only at H);have A5 := M_ A50;clear A50
  by_cases c6 : t225 = true
  focus
   subst c6
   rw [if_pos rfl] at H
   replace H := Option.bind_eq_some_iff.mp H;obtain ⟨t226, A70, H⟩ := H;(try dsimp only at H);have A7 := M_ A70;clear A70
  rotate_left
  focus
   replace c6 := Bool.eq_false_iff.mpr c6
   subst c6
   rw [if_neg (show ¬ (false = true) by decide)] at H
  rotate_left
  all_goals
   have H' := M_ H
   clear H;obtain ⟨hcz8_0, hcz8_1, hfz8_0, hfz8_1⟩ := bq2_ BK224
   go_wp2_with (first | ((with_reducible refine gc_ 101 ?_); refine gM_ (some 10) Try.func101 #[.agg #[.slice A0_0 l0_0.length c0_0, .int .i64 a0_1]] ?_; (with_reducible refine (impl_IsInstrument.calls k _ _ l0_0 a0_1 _ _ ?side1 ?side2 A5.out).mono ?_); (case side1 => exact cU_ (Kd.C_below HR0_0.out HB.out)); (case side2 => exact HC0_0.out); rintro e w9 ⟨rfl, hb⟩; refine ⟨_, rfl, ?_⟩; replace BK224 := M_ (kb_ BK224 hb); replace HB := M_ (bS_ HB hb); clear hb) | (go_at_call 90; (with_reducible refine (impl_IsScore.calls k _ _ l1 t226 _ ?side1 ?side2 A7.out).mono ?_); (case side1 => exact cU_ (Kd.C_below HR1.out HB.out)); (case side2 => exact HC1.out); rintro e w10 ⟨rfl, hb⟩; replace BK224 := M_ (kb_ BK224 hb); replace HB := M_ (bS_ HB hb); clear hb))
   go_meet
  ·case rel => exact ⟨_, (!t226), eD_, H', ⟨by first | omega | exact Nat.le_refl _⟩, ⟨kU_ BK224⟩, ⟨bU_ HB⟩⟩
  ·case rel => exact ⟨_, (true), eD_, H', ⟨by first | omega | exact Nat.le_refl _⟩, ⟨kU_ BK224⟩, ⟨bU_ HB⟩⟩
 case rest =>
  clear HC3;obtain ⟨kq, x16_2, rfl, HA, HJ2, BK224, HB⟩ := hcut
  cases kq with
  | zero => exact absurd HA.out (by simp [impl_MissingPitches.j0])
  | succ kj2 =>
   have H := HA.out;clear HA;simp only [impl_MissingPitches.j0] at H
   by_cases c13 : x16_2 = true
   focus
    subst c13
    rw [if_pos rfl] at H
    simp only [Option.some.injEq, Prod.mk.injEq] at H;obtain ⟨rfl, rfl⟩ := H
   rotate_left
   focus
    replace c13 := Bool.eq_false_iff.mpr c13
    subst c13
    rw [if_neg (show ¬ (false = true) by decide)] at H
    obtain ⟨y227, hy227⟩ : ∃ y_ : List Int, y_ = (([] : List Int)) := ⟨_, rfl⟩
    replace H : (impl_MissingPitches.l0 kj2 y227 l1 (l1.length : Int) 0 l0_0 a0_1) = some (r1, r2) := by first | (rw [hy227]; with_reducible exact H) | (have H2_ := (Option.bind_some _ _).symm.trans H; rw [hy227]; with_reducible exact H2_) | (have H2_ := (Option.bind_some _ _).symm.trans H; with_reducible exact H2_) | with_reducible exact H | (rw [hy227]; exact H) | exact H
    have Ny227 := M_ hy227;clear hy227
    have H' := M_ H
    clear H
   rotate_left
   all_goals
    go_wp2_with (first | ((with_reducible refine gate_dst (N := 17) rfl ?_); refine lt_ (Kd.int .i64) 3 (N := 17) (([] : List Int)) [] ri_ ?_; intro v228 w14 ho15 hb hg_ hnew_; clear hg_ hnew_; replace ho15 := rN_ Ny227 ho15; have HO229 := M_ (Kd.R_lower ho15 (bZ_ HB)); replace BK224 := M_ (kb_ BK224 hb); replace HB := M_ (bS_ HB hb); clear hb ho15))
   ·go_ret2
    exact ⟨_, eR_, by first | exact Kd.R_nil _ _ _ _ _ | exact Kd.N_nil _ _ _ _ _ | exact Kd.V_nil _ _ _ _ _ | exact Kd.Q_nil _ _ _ _ _ | exact Kd.S_nil _ _ _ _ _, bU_ HB⟩
   ·go_loopg [6, 20] kj2 (fun kq v6 v20 w' => ∃ (x6_2 : List Int) (x20_2 : Int), v20 = .int .i64 x20_2 ∧ Aside0 (impl_MissingPitches.l0 kq x6_2 l1 (l1.length : Int) x20_2 l0_0 a0_1 = some (r1, r2)) ∧ Aside0 (kq ≤ kj2) ∧ Aside0 (Kd.R (Kd.int .i64) 3 w' w.heap.size (fun _ => True) v6 x6_2) ∧ Aside0 (w'.heap[gb224]? = some (.cells #[(.slice A0_0 l0_0.length c0_0), .int .i64 a0_1] 58 (0, 0))) ∧ Aside0 (Below w.heap.size w w'))
    case atStart => exact ⟨(y227), (0), eD_, H', ⟨Nat.le_refl _⟩, ⟨rU_ HO229.out⟩, ⟨kU_ BK224⟩, ⟨bU_ HB⟩⟩
    case round =>
     clear H';obtain ⟨x6_2, x20_2, rfl, HA, HK2, HO_6, BK224, HB⟩ := hrel
     cases gk with
     | zero => exact absurd HA.out (by simp [impl_MissingPitches.l0])
     | succ k2 =>
      have H := HA.out;clear HA;simp only [impl_MissingPitches.l0] at H
      by_cases c16 : x20_2 < (l1.length : Int)
      ·rw [if_pos c16] at H
       have c16b0 : decide (x20_2 < (l1.length : Int)) = true := decide_eq_true c16
       clear c16
       by_cases c17 : 0 ≤ x20_2
       ·rw [if_pos c17] at H
        have c17b0 : decide (0 ≤ x20_2) = true := decide_eq_true c17
        clear c17
        by_cases c18 : x20_2 < (l1.length : Int)
        ·rw [if_pos c18] at H
         have c18b0 : decide (x20_2 < (l1.length : Int)) = true := decide_eq_true c18
         clear c18;replace H := Option.bind_eq_some_iff.mp H;obtain ⟨t232, A190, H⟩ := H;(try dsimp only at H);have A19 := M_ A190;clear A190
         by_cases c20 : t232 = true
         ·subst c20
          rw [if_pos rfl] at H
          have H' := M_ H
          clear H
          have p230 : 0 ≤ (x20_2 : Int) := dT_
          have q230 : x20_2 < (l1.length : Int) := dT_
          obtain ⟨ad230, e230, hx230_0, hx230_1, hx230_2⟩ := at_T80 HR1.out x20_2 p230 q230;cases e230;replace hx230_0 := (HB.out.cell (World.block_lt_of_cell? w _ hx230_0)).trans hx230_0;replace hx230_1 := (HB.out.cell (World.block_lt_of_cell? w _ hx230_1)).trans hx230_1;replace hx230_2 := (HB.out.cell (World.block_lt_of_cell? w _ hx230_2)).trans hx230_2;replace p230 := eq_true p230;replace q230 := eq_true q230
          go_wp2_with (first | ((with_reducible refine gate_dst (N := 8) rfl ?_); refine bx_ (N := 8) (cs := #[.int .i64 0, .int .i64 0, .int .i64 0]) (t := 80) ?_; intro gb231 hg w21 hbox hb; replace HO_6 := M_ (rB_ HO_6 hb); have BK231 := M_ (hbox); have GW231 := M_ (gw_ HB hg); have GE231 := M_ (gw_ HB hg); replace HB := M_ (bS_ HB hb); have NB224_231 := M_ (nb_ BK224 hg); have NB231_224 := M_ ((by rw [hg]; exact Nat.ne_of_gt (blk_lt (kU_ BK224)) : gb231 ≠ gb224)); replace BK224 := M_ (kb_ BK224 hb); clear hb hbox hg; have hnb22 := NB231_224.out; have hnc22 := NB224_231.out; obtain ⟨hcz23_0, hcz23_1, hcz23_2, hfz23_0, hfz23_1, hfz23_2⟩ := bq3_ BK231; obtain ⟨hcz24_0, hcz24_1, hfz24_0, hfz24_1⟩ := bq2_ BK224) | ((with_reducible refine gc_ 103 ?_); refine gM_ (some 28) Try.func103 #[.slice A0_0 l0_0.length c0_0, .int .i64 ((rd_T80 l1 x20_2).f0)] ?_; (with_reducible refine (slices_Contains_int_int.calls k2 _ _ l0_0 ((rd_T80 l1 x20_2).f0) true _ ?side1 ?side2 A19.out).mono ?_); (case side1 => exact Kd.C_below HR0_0.out (bU_ HB)); (case side2 => exact HC0_0.out); rintro e w' ⟨rfl, ⟨nd, rfl⟩⟩; refine ⟨_, rfl, ?_⟩))
          go_roundg k2
          case measure => have := HJ2.out; have := HK2.out; omega
          case rel => exact ⟨(x6_2), (wrap64 (x20_2 + 1)), eD_, H', ⟨by have := HJ2.out; have := HK2.out; omega⟩, ⟨by (with_reducible repeat (first | apply ra_ | apply rn_ | apply rd_)); exact rm_ (Kd.R_far (p := ⟨gb231, 2, none⟩) (Kd.R_far (p := ⟨gb231, 1, none⟩) (Kd.R_far (p := ⟨gb231, 0, none⟩) (rt_ HO_6.out BK231.out (by decide)) (fun _ hk => hk.2) (.int .i64 ((rd_T80 l1 x20_2).f0))) (fun _ hk => hk.2) (.int .i64 ((rd_T80 l1 x20_2).f1))) (fun _ hk => hk.2) (.int .i64 ((rd_T80 l1 x20_2).f2))) (fun _ hk => trivial)⟩, ⟨by (with_reducible repeat (first | refine kn_ ?_ _ | refine kd_ ?_ | refine ka_ ?_ _)); refine blk_far ?_ NB224_231.out _; (with_reducible repeat (first | refine kn_ ?_ _ | refine kd_ ?_ | refine ka_ ?_ _)); refine blk_far ?_ NB224_231.out _; (with_reducible repeat (first | refine kn_ ?_ _ | refine kd_ ?_ | refine ka_ ?_ _)); refine blk_far ?_ NB224_231.out _; (with_reducible repeat (first | refine kn_ ?_ _ | refine kd_ ?_ | refine ka_ ?_ _)); exact BK224.out⟩, ⟨bU_ HB⟩⟩
         ·replace c20 := Bool.eq_false_iff.mpr c20
          subst c20
          rw [if_neg (show ¬ (false = true) by decide)] at H
          by_cases c25 : x6_2.length < 17592186044416
          ·rw [if_pos c25] at H
           have LMc25 := M_ c25;clear c25;obtain ⟨y233, hy233⟩ : ∃ y_ : List Int, y_ = (x6_2 ++ [(rd_T80 l1 x20_2).f0]) := ⟨_, rfl⟩
           replace H : (impl_MissingPitches.l0 k2 y233 l1 (l1.length : Int) (wrap64 (x20_2 + 1)) l0_0 a0_1) = some (r1, r2) := by first | (rw [hy233]; with_reducible exact H) | (have H2_ := (Option.bind_some _ _).symm.trans H; rw [hy233]; with_reducible exact H2_) | (have H2_ := (Option.bind_some _ _).symm.trans H; with_reducible exact H2_) | with_reducible exact H | (rw [hy233]; exact H) | exact H
           have Ny233 := M_ hy233;clear hy233
           have H' := M_ H
           clear H
           have p230 : 0 ≤ (x20_2 : Int) := dT_
           have q230 : x20_2 < (l1.length : Int) := dT_
           obtain ⟨ad230, e230, hx230_0, hx230_1, hx230_2⟩ := at_T80 HR1.out x20_2 p230 q230;cases e230;replace hx230_0 := (HB.out.cell (World.block_lt_of_cell? w _ hx230_0)).trans hx230_0;replace hx230_1 := (HB.out.cell (World.block_lt_of_cell? w _ hx230_1)).trans hx230_1;replace hx230_2 := (HB.out.cell (World.block_lt_of_cell? w _ hx230_2)).trans hx230_2;replace p230 := eq_true p230;replace q230 := eq_true q230
           go_wp2_with (first | ((with_reducible refine gate_dst (N := 8) rfl ?_); refine bx_ (N := 8) (cs := #[.int .i64 0, .int .i64 0, .int .i64 0]) (t := 80) ?_; intro gb231 hg w26 hbox hb; replace HO_6 := M_ (rB_ HO_6 hb); have BK231 := M_ (hbox); have GW231 := M_ (gw_ HB hg); have GE231 := M_ (gw_ HB hg); replace HB := M_ (bS_ HB hb); have NB224_231 := M_ (nb_ BK224 hg); have NB231_224 := M_ ((by rw [hg]; exact Nat.ne_of_gt (blk_lt (kU_ BK224)) : gb231 ≠ gb224)); replace BK224 := M_ (kb_ BK224 hb); clear hb hbox hg; have hnb27 := NB231_224.out; have hnc27 := NB224_231.out; obtain ⟨hcz28_0, hcz28_1, hcz28_2, hfz28_0, hfz28_1, hfz28_2⟩ := bq3_ BK231; obtain ⟨hcz29_0, hcz29_1, hfz29_0, hfz29_1⟩ := bq2_ BK224) | ((with_reducible refine gc_ 103 ?_); refine gM_ (some 28) Try.func103 #[.slice A0_0 l0_0.length c0_0, .int .i64 ((rd_T80 l1 x20_2).f0)] ?_; (with_reducible refine (slices_Contains_int_int.calls k2 _ _ l0_0 ((rd_T80 l1 x20_2).f0) false _ ?side1 ?side2 A19.out).mono ?_); (case side1 => exact Kd.C_below HR0_0.out (bU_ HB)); (case side2 => exact HC0_0.out); rintro e w' ⟨rfl, ⟨nd, rfl⟩⟩; refine ⟨_, rfl, ?_⟩) | ((with_reducible refine gate_builtin (b := .append) (xs := #[.tmp 30, .tmp 33]) rfl ?_); at_builtin; refine Kd.R_append (Kd.int .i64) (w0 := w) w.heap.size rfl (.tmp 30) (.tmp 33) 42 3 (.int .i64 0) 8 rfl Try.underlying42 info3 rfl (by decide) (by omega) u6 x6_2 ((rd_T80 l1 x20_2).f0) [.int .i64 ((rd_T80 l1 x20_2).f0)] (fun _ => True) (fun _ => False) rfl (by first | (go_simp; done) | (go_simp; rfl)) ?aP (fun _ hk => hk.elim) ?aF ?aO ?aB ?aS ?aL ?_; (case aP => exact rfl); (case aB => exact (bU_ HB)); (case aF => exact (fun _ _ => trivial)); (case aO => exact (rU_ (rm_ (Kd.R_far (p := ⟨gb231, 2, none⟩) (Kd.R_far (p := ⟨gb231, 1, none⟩) (Kd.R_far (p := ⟨gb231, 0, none⟩) (rt_ HO_6.out BK231.out (by decide)) (fun _ hk => hk.2) (.int .i64 ((rd_T80 l1 x20_2).f0))) (fun _ hk => hk.2) (.int .i64 ((rd_T80 l1 x20_2).f1))) (fun _ hk => hk.2) (.int .i64 ((rd_T80 l1 x20_2).f2))) (fun _ hk => trivial)))); (case aS => exact (bZ_ HB)); (case aL => have := LMc25.out; omega); intro v234 w30 ho hb hg hat; rw [← Ny233.out] at ho; replace BK224 := M_ (blk_grown (g := gb224) (o := .cells #[.slice A0_0 l0_0.length c0_0, .int .i64 a0_1] 58 (0, 0)) (by (with_reducible repeat (first | refine kn_ ?_ _ | refine kd_ ?_ | refine ka_ ?_ _)); refine blk_far ?_ NB224_231.out _; (with_reducible repeat (first | refine kn_ ?_ _ | refine kd_ ?_ | refine ka_ ?_ _)); refine blk_far ?_ NB224_231.out _; (with_reducible repeat (first | refine kn_ ?_ _ | refine kd_ ?_ | refine ka_ ?_ _)); refine blk_far ?_ NB224_231.out _; (with_reducible repeat (first | refine kn_ ?_ _ | refine kd_ ?_ | refine ka_ ?_ _)); exact BK224.out) hg (Kd.R_ne HO_6.out BK224.out (by decide))); replace BK231 := M_ (blk_grown (g := gb231) (o := .cells #[.int .i64 ((rd_T80 l1 x20_2).f0), .int .i64 ((rd_T80 l1 x20_2).f1), .int .i64 ((rd_T80 l1 x20_2).f2)] 80 (0, 0)) (by (with_reducible repeat (first | refine kn_ ?_ _ | refine kd_ ?_ | refine ka_ ?_ _)); refine blk_put (cs := #[.int .i64 ((rd_T80 l1 x20_2).f0), .int .i64 ((rd_T80 l1 x20_2).f1), .int .i64 0]) ?_ 2 _ rfl; (with_reducible repeat (first | refine kn_ ?_ _ | refine kd_ ?_ | refine ka_ ?_ _)); refine blk_put (cs := #[.int .i64 ((rd_T80 l1 x20_2).f0), .int .i64 0, .int .i64 0]) ?_ 1 _ rfl; (with_reducible repeat (first | refine kn_ ?_ _ | refine kd_ ?_ | refine ka_ ?_ _)); refine blk_put (cs := #[.int .i64 0, .int .i64 0, .int .i64 0]) ?_ 0 _ rfl; (with_reducible repeat (first | refine kn_ ?_ _ | refine kd_ ?_ | refine ka_ ?_ _)); exact BK231.out) hg (Kd.R_ne HO_6.out BK231.out (by decide))); replace HB := M_ (hb); have HO235 := M_ (ho); clear HO_6; clear ho hb hg hat))
           go_roundg k2
           case measure => have := HJ2.out; have := HK2.out; omega
           case rel => exact ⟨(y233), (wrap64 (x20_2 + 1)), eD_, H', ⟨by have := HJ2.out; have := HK2.out; omega⟩, ⟨rU_ HO235.out⟩, ⟨kU_ BK224⟩, ⟨bU_ HB⟩⟩
          ·rw [if_neg c25] at H
           exact absurd H (by simp)
        ·rw [if_neg c18] at H
         exact absurd H (by simp)
       ·rw [if_neg c17] at H
        exact absurd H (by simp)
      ·rw [if_neg c16] at H
       have c16b0 : decide (x20_2 < (l1.length : Int)) = false := decide_eq_false c16
       clear c16;replace H := Option.bind_eq_some_iff.mp H;obtain ⟨t236, A310, H⟩ := H;replace H : (some (t236, true)) = some (r1, r2) := H;have A31 := M_ A310;clear A310;simp only [Option.some.injEq, Prod.mk.injEq] at H;obtain ⟨rfl, rfl⟩ := H;obtain ⟨Ao32, co32, eo32⟩ := Kd.R_slice HO_6.out;subst eo32
       go_wp2_with (first | ((with_reducible refine gc_ 104 ?_); refine gM_ (some 37) Try.func104 #[.slice Ao32 x6_2.length co32] ?_; (with_reducible refine (impl_sortedSet.calls _ _ x6_2 t236 _ ?side1 ?side2 A31.out).mono ?_); (case side1 => exact cU_ (Kd.R_reads' HO_6.out).2.2); (case side2 => exact (Kd.R_reads' HO_6.out).2.1); rintro e w33 ⟨v237, rfl, ho0, hb⟩; refine ⟨_, rfl, ?_⟩; have HO238 := M_ (Kd.R_lower (Kd.R_new' ho0 (rl_ HO_6)) (bZ_ HB)); replace HO_6 := M_ (re_ HO_6 ho0 hb); replace BK224 := M_ (kb_ BK224 hb); replace HB := M_ (bS_ HB hb); clear hb ho0))
       go_ret2
       exact ⟨_, eR_, by (with_reducible repeat (first | apply ra_ | apply rn_ | apply rd_)); exact rm_ HO238.out (fun _ hk => trivial), bU_ HB⟩
def spec_l1Cur_next.f (s0_0 : List Int) (s0_1 : Int) (s0_2 : Int) : Option (Int × Int × Int) := if s0_1 < (s0_0.length : Int) then (if 0 ≤ s0_1 then (if (wrap64 (s0_1 + 1)) ≤ (s0_0.length : Int) then (some (wrap64 (rd s0_0 s0_1), wrap64 (s0_1 + 1), IntKind.u64.wrap ((IntKind.u64.wrap ((IntKind.u64.wrap (s0_2 * 6364136223846793005)) + (IntKind.u64.wrap (wrap64 (rd s0_0 s0_1))))) + 1442695040888963407))) else (some (wrap64 (Go.bits .and .u64 ((IntKind.u64.wrap ((IntKind.u64.wrap ((IntKind.u64.wrap (s0_2 * 6364136223846793005)) + (IntKind.u64.wrap (wrap64 (rd s0_0 s0_1))))) + 1442695040888963407)) / 1099511627776) 255), wrap64 (s0_1 + 1), IntKind.u64.wrap ((IntKind.u64.wrap ((IntKind.u64.wrap (s0_2 * 6364136223846793005)) + (IntKind.u64.wrap (wrap64 (rd s0_0 s0_1))))) + 1442695040888963407)))) else (none)) else (if (wrap64 (s0_1 + 1)) ≤ (s0_0.length : Int) then (some (0, wrap64 (s0_1 + 1), IntKind.u64.wrap ((IntKind.u64.wrap ((IntKind.u64.wrap (s0_2 * 6364136223846793005)) + 0)) + 1442695040888963407))) else (some (wrap64 (Go.bits .and .u64 ((IntKind.u64.wrap ((IntKind.u64.wrap ((IntKind.u64.wrap (s0_2 * 6364136223846793005)) + 0)) + 1442695040888963407)) / 1099511627776) 255), wrap64 (s0_1 + 1), IntKind.u64.wrap ((IntKind.u64.wrap ((IntKind.u64.wrap (s0_2 * 6364136223846793005)) + 0)) + 1442695040888963407))))
set_option maxHeartbeats 8000000 in
set_option maxRecDepth 100000 in
theorem spec_l1Cur_next.calls (g : Nat) (s0_0 : List Int) (s0_1 : Int) (s0_2 : Int) (r1 : Int) (r2 : Int) (r3 : Int) (w0 w : World) (hI : IsS86 w0 w g s0_0 s0_1 s0_2) (hB : Below w0.heap.size w0 w) (h : spec_l1Cur_next.f s0_0 s0_1 s0_2 = some (r1, r2, r3)) :
  Calls Try.prog 118 #[.pointer (some ⟨g, 0, none⟩)] w fun e w' => e = .returned (.int .i64 r1) ∧ IsS86 w0 w' g s0_0 r2 r3 ∧ Below w0.heap.size w0 w' ∧ KeepBut w w' g none := by
 have HI0 := M_ hI;have GEHI0_ := M_ (IsS86.ge HI0.out);have HK := M_ (KeepBut.refl w g none);have HL := M_ hB.size;clear hI;have HW0 := M_ hB.size;have HB := M_ hB;clear hB
 have H : (if s0_1 < (s0_0.length : Int) then (if 0 ≤ s0_1 then (if (wrap64 (s0_1 + 1)) ≤ (s0_0.length : Int) then (some (wrap64 (rd s0_0 s0_1), wrap64 (s0_1 + 1), IntKind.u64.wrap ((IntKind.u64.wrap ((IntKind.u64.wrap (s0_2 * 6364136223846793005)) + (IntKind.u64.wrap (wrap64 (rd s0_0 s0_1))))) + 1442695040888963407))) else (some (wrap64 (Go.bits .and .u64 ((IntKind.u64.wrap ((IntKind.u64.wrap ((IntKind.u64.wrap (s0_2 * 6364136223846793005)) + (IntKind.u64.wrap (wrap64 (rd s0_0 s0_1))))) + 1442695040888963407)) / 1099511627776) 255), wrap64 (s0_1 + 1), IntKind.u64.wrap ((IntKind.u64.wrap ((IntKind.u64.wrap (s0_2 * 6364136223846793005)) + (IntKind.u64.wrap (wrap64 (rd s0_0 s0_1))))) + 1442695040888963407)))) else (none)) else (if (wrap64 (s0_1 + 1)) ≤ (s0_0.length : Int) then (some (0, wrap64 (s0_1 + 1), IntKind.u64.wrap ((IntKind.u64.wrap ((IntKind.u64.wrap (s0_2 * 6364136223846793005)) + 0)) + 1442695040888963407))) else (some (wrap64 (Go.bits .and .u64 ((IntKind.u64.wrap ((IntKind.u64.wrap ((IntKind.u64.wrap (s0_2 * 6364136223846793005)) + 0)) + 1442695040888963407)) / 1099511627776) 255), wrap64 (s0_1 + 1), IntKind.u64.wrap ((IntKind.u64.wrap ((IntKind.u64.wrap (s0_2 * 6364136223846793005)) + 0)) + 1442695040888963407))))) = some (r1, r2, r3) := h
 clear h
 by_cases c2 : s0_1 < (s0_0.length : Int)
 ·rw [if_pos c2] at H
  have c2b0 : decide (s0_1 < (s0_0.length : Int)) = true := decide_eq_true c2
  clear c2
  by_cases c3 : 0 ≤ s0_1
  ·rw [if_pos c3] at H
   have c3b0 : decide (0 ≤ s0_1) = true := decide_eq_true c3
   clear c3
   by_cases c4 : (wrap64 (s0_1 + 1)) ≤ (s0_0.length : Int)
   ·rw [if_pos c4] at H
    have c4b0 : decide ((wrap64 (s0_1 + 1)) ≤ (s0_0.length : Int)) = true := decide_eq_true c4
    clear c4;simp only [Option.some.injEq, Prod.mk.injEq] at H;obtain ⟨rfl, rfl, rfl⟩ := H;obtain ⟨ASz5_0, cSz5_0, HGz5, hgz5, HSz5_0⟩ := HI0.out;have hcz5_0 := cellS86_0 HGz5;have hcz5_1 := cellS86_1 HGz5;have hcz5_2 := cellS86_2 HGz5;have hfz5_1 := blk_frozen HGz5 1;have hfz5_2 := blk_frozen HGz5 2;clear HGz5 hgz5
    have p239 : 0 ≤ (s0_1 : Int) := dT_
    have q239 : s0_1 < (s0_0.length : Int) := dT_
    obtain ⟨ad239, e239, hx239_0⟩ := Kd.at_int HSz5_0 s0_1 p239 q239;cases e239;replace hx239_0 := pw_cell_below HB.out hx239_0;replace p239 := eq_true p239;replace q239 := eq_true q239
    go_enter Try.func118, Try.ntmps118
    go_wp2
    repeat (go_quiet (fail); try go_wp2)
    go_ret
    exact ⟨eR_, by (try simp only [show IntKind.u64.wrap 0 = 0 from rfl, Int.add_zero]); exact iU_ HI0, bU_ HB, pU_ HK⟩
   ·rw [if_neg c4] at H
    have c4b0 : decide ((wrap64 (s0_1 + 1)) ≤ (s0_0.length : Int)) = false := decide_eq_false c4
    clear c4;simp only [Option.some.injEq, Prod.mk.injEq] at H;obtain ⟨rfl, rfl, rfl⟩ := H;obtain ⟨ASz6_0, cSz6_0, HGz6, hgz6, HSz6_0⟩ := HI0.out;have hcz6_0 := cellS86_0 HGz6;have hcz6_1 := cellS86_1 HGz6;have hcz6_2 := cellS86_2 HGz6;have hfz6_1 := blk_frozen HGz6 1;have hfz6_2 := blk_frozen HGz6 2;clear HGz6 hgz6
    have p239 : 0 ≤ (s0_1 : Int) := dT_
    have q239 : s0_1 < (s0_0.length : Int) := dT_
    obtain ⟨ad239, e239, hx239_0⟩ := Kd.at_int HSz6_0 s0_1 p239 q239;cases e239;replace hx239_0 := pw_cell_below HB.out hx239_0;replace p239 := eq_true p239;replace q239 := eq_true q239
    go_enter Try.func118, Try.ntmps118
    go_wp2
    repeat (go_quiet (fail); try go_wp2)
    go_ret
    exact ⟨eR_, by (try simp only [show IntKind.u64.wrap 0 = 0 from rfl, Int.add_zero]); exact iU_ HI0, bU_ HB, pU_ HK⟩
  ·rw [if_neg c3] at H
   exact absurd H (by simp)
 ·rw [if_neg c2] at H
  have c2b0 : decide (s0_1 < (s0_0.length : Int)) = false := decide_eq_false c2
  clear c2
  by_cases c7 : (wrap64 (s0_1 + 1)) ≤ (s0_0.length : Int)
  ·rw [if_pos c7] at H
   have c7b0 : decide ((wrap64 (s0_1 + 1)) ≤ (s0_0.length : Int)) = true := decide_eq_true c7
   clear c7;simp only [Option.some.injEq, Prod.mk.injEq] at H;obtain ⟨rfl, rfl, rfl⟩ := H;obtain ⟨ASz8_0, cSz8_0, HGz8, hgz8, HSz8_0⟩ := HI0.out;have hcz8_0 := cellS86_0 HGz8;have hcz8_1 := cellS86_1 HGz8;have hcz8_2 := cellS86_2 HGz8;have hfz8_1 := blk_frozen HGz8 1;have hfz8_2 := blk_frozen HGz8 2;clear HGz8 hgz8
   go_enter Try.func118, Try.ntmps118
   go_wp2
   repeat (go_quiet (fail); try go_wp2)
   go_ret
   exact ⟨eR_, by (try simp only [show IntKind.u64.wrap 0 = 0 from rfl, Int.add_zero]); exact iU_ HI0, bU_ HB, pU_ HK⟩
  ·rw [if_neg c7] at H
   have c7b0 : decide ((wrap64 (s0_1 + 1)) ≤ (s0_0.length : Int)) = false := decide_eq_false c7
   clear c7;simp only [Option.some.injEq, Prod.mk.injEq] at H;obtain ⟨rfl, rfl, rfl⟩ := H;obtain ⟨ASz9_0, cSz9_0, HGz9, hgz9, HSz9_0⟩ := HI0.out;have hcz9_0 := cellS86_0 HGz9;have hcz9_1 := cellS86_1 HGz9;have hcz9_2 := cellS86_2 HGz9;have hfz9_1 := blk_frozen HGz9 1;have hfz9_2 := blk_frozen HGz9 2;clear HGz9 hgz9
   go_enter Try.func118, Try.ntmps118
   go_wp2
   repeat (go_quiet (fail); try go_wp2)
   go_ret
   exact ⟨eR_, by (try simp only [show IntKind.u64.wrap 0 = 0 from rfl, Int.add_zero]); exact iU_ HI0, bU_ HB, pU_ HK⟩
def spec_l1Cur_pick.f (s0_0 : List Int) (s0_1 : Int) (s0_2 : Int) (a1 : Int) : Option (Int × Int × Int) := if a1 ≤ 1 then (some (0, s0_1, s0_2)) else ((spec_l1Cur_next.f s0_0 s0_1 s0_2).bind fun bt240 => (if a1 > 200 then ((spec_l1Cur_next.f s0_0 bt240.2.1 bt240.2.2).bind fun bt243 => (if a1 = 0 then (none) else (some (Int.tmod (wrap64 ((wrap64 (bt240.1 * 256)) + bt243.1)) a1, bt243.2.1, bt243.2.2)))) else (if a1 = 0 then (none) else (some (Int.tmod bt240.1 a1, bt240.2.1, bt240.2.2)))))
set_option maxHeartbeats 8000000 in
set_option maxRecDepth 100000 in
theorem spec_l1Cur_pick.calls (g : Nat) (s0_0 : List Int) (s0_1 : Int) (s0_2 : Int) (a1 : Int) (r1 : Int) (r2 : Int) (r3 : Int) (w0 w : World) (hI : IsS86 w0 w g s0_0 s0_1 s0_2) (hB : Below w0.heap.size w0 w) (h : spec_l1Cur_pick.f s0_0 s0_1 s0_2 a1 = some (r1, r2, r3)) :
  Calls Try.prog 75 #[.pointer (some ⟨g, 0, none⟩), .int .i64 a1] w fun e w' => e = .returned (.int .i64 r1) ∧ IsS86 w0 w' g s0_0 r2 r3 ∧ Below w0.heap.size w0 w' ∧ KeepBut w w' g none := by
 have HI0 := M_ hI;have GEHI0_ := M_ (IsS86.ge HI0.out);have HK := M_ (KeepBut.refl w g none);have HL := M_ hB.size;clear hI;have HW0 := M_ hB.size;have HB := M_ hB;clear hB
 have H : (if a1 ≤ 1 then (some (0, s0_1, s0_2)) else ((spec_l1Cur_next.f s0_0 s0_1 s0_2).bind fun bt240 => (if a1 > 200 then ((spec_l1Cur_next.f s0_0 bt240.2.1 bt240.2.2).bind fun bt243 => (if a1 = 0 then (none) else (some (Int.tmod (wrap64 ((wrap64 (bt240.1 * 256)) + bt243.1)) a1, bt243.2.1, bt243.2.2)))) else (if a1 = 0 then (none) else (some (Int.tmod bt240.1 a1, bt240.2.1, bt240.2.2)))))) = some (r1, r2, r3) := h
 clear h
 by_cases c3 : a1 ≤ 1
 ·rw [if_pos c3] at H
  have c3b0 : decide (a1 ≤ 1) = true := decide_eq_true c3
  clear c3;simp only [Option.some.injEq, Prod.mk.injEq] at H;obtain ⟨rfl, rfl, rfl⟩ := H
  go_enter Try.func75, Try.ntmps75
  go_wp2
  go_ret
  exact ⟨eR_, by (try simp only [show IntKind.u64.wrap 0 = 0 from rfl, Int.add_zero]); exact iU_ HI0, bU_ HB, pU_ HK⟩
 ·rw [if_neg c3] at H
  have c3b0 : decide (a1 ≤ 1) = false := decide_eq_false c3
  clear c3;replace H := Option.bind_eq_some_iff.mp H;obtain ⟨⟨t240, t241, t242⟩, A40, H⟩ := H;(try dsimp only at H);have A4 := M_ A40;clear A40
  by_cases c5 : a1 > 200
  ·rw [if_pos c5] at H
   have c5b0 : decide (200 < a1) = true := decide_eq_true c5
   clear c5;replace H := Option.bind_eq_some_iff.mp H;obtain ⟨⟨t243, t244, t245⟩, A60, H⟩ := H;(try dsimp only at H);have A6 := M_ A60;clear A60
   by_cases c7 : a1 = 0
   ·rw [if_pos c7] at H
    exact absurd H (by simp)
   ·rw [if_neg c7] at H
    have c7b0 : (a1 == 0) = false := beq_eq_false_iff_ne.mpr c7
    have c7b1 : (a1 != 0) = true := bne_iff_ne.mpr c7
    simp only [Option.some.injEq, Prod.mk.injEq] at H;obtain ⟨rfl, rfl, rfl⟩ := H
    go_enter Try.func75, Try.ntmps75
    go_wp2_with (first | ((with_reducible refine gc_ 118 ?_); refine gM_ (some 9) Try.func118 #[.pointer (some ⟨g, 0, none⟩)] ?_; (with_reducible refine (spec_l1Cur_next.calls g s0_0 s0_1 s0_2 t240 t241 t242 w0 _ ?side1 ?side2 A4.out).mono ?_); (case side1 => exact iU_ HI0); (case side2 => exact bU_ HB); rintro e w8 ⟨rfl, hi, hb, hk⟩; refine ⟨_, rfl, ?_⟩; replace HK := M_ (pT_ HK hk); replace HB := M_ (hb); replace HI0 := M_ (hi); clear hb hk hi) | ((with_reducible refine gc_ 118 ?_); refine gM_ (some 15) Try.func118 #[.pointer (some ⟨g, 0, none⟩)] ?_; (with_reducible refine (spec_l1Cur_next.calls g s0_0 t241 t242 t243 t244 t245 w0 _ ?side1 ?side2 A6.out).mono ?_); (case side1 => exact iU_ HI0); (case side2 => exact bU_ HB); rintro e w9 ⟨rfl, hi, hb, hk⟩; refine ⟨_, rfl, ?_⟩; replace HK := M_ (pT_ HK hk); replace HB := M_ (hb); replace HI0 := M_ (hi); clear hb hk hi))
    go_ret
    exact ⟨eR_, by (try simp only [show IntKind.u64.wrap 0 = 0 from rfl, Int.add_zero]); exact iU_ HI0, bU_ HB, pU_ HK⟩
  ·rw [if_neg c5] at H
   have c5b0 : decide (200 < a1) = false := decide_eq_false c5
   clear c5
   by_cases c10 : a1 = 0
   ·rw [if_pos c10] at H
    exact absurd H (by simp)
   ·rw [if_neg c10] at H
    have c10b0 : (a1 == 0) = false := beq_eq_false_iff_ne.mpr c10
    have c10b1 : (a1 != 0) = true := bne_iff_ne.mpr c10
    simp only [Option.some.injEq, Prod.mk.injEq] at H;obtain ⟨rfl, rfl, rfl⟩ := H
    go_enter Try.func75, Try.ntmps75
    go_wp2_with (first | ((with_reducible refine gc_ 118 ?_); refine gM_ (some 9) Try.func118 #[.pointer (some ⟨g, 0, none⟩)] ?_; (with_reducible refine (spec_l1Cur_next.calls g s0_0 s0_1 s0_2 t240 t241 t242 w0 _ ?side1 ?side2 A4.out).mono ?_); (case side1 => exact iU_ HI0); (case side2 => exact bU_ HB); rintro e w11 ⟨rfl, hi, hb, hk⟩; refine ⟨_, rfl, ?_⟩; replace HK := M_ (pT_ HK hk); replace HB := M_ (hb); replace HI0 := M_ (hi); clear hb hk hi))
    go_ret
    exact ⟨eR_, by (try simp only [show IntKind.u64.wrap 0 = 0 from rfl, Int.add_zero]); exact iU_ HI0, bU_ HB, pU_ HK⟩
def spec_l1Cur_one.f (s0_0 : List Int) (s0_1 : Int) (s0_2 : Int) (a1 : Int) : Option (Bool × Int × Int) := (spec_l1Cur_pick.f s0_0 s0_1 s0_2 a1).bind fun bt246 => (some ((bt246.1 == 0), bt246.2.1, bt246.2.2))
set_option maxHeartbeats 8000000 in
set_option maxRecDepth 100000 in
theorem spec_l1Cur_one.calls (g : Nat) (s0_0 : List Int) (s0_1 : Int) (s0_2 : Int) (a1 : Int) (r1 : Bool) (r2 : Int) (r3 : Int) (w0 w : World) (hI : IsS86 w0 w g s0_0 s0_1 s0_2) (hB : Below w0.heap.size w0 w) (h : spec_l1Cur_one.f s0_0 s0_1 s0_2 a1 = some (r1, r2, r3)) :
  Calls Try.prog 133 #[.pointer (some ⟨g, 0, none⟩), .int .i64 a1] w fun e w' => e = .returned (.bool r1) ∧ IsS86 w0 w' g s0_0 r2 r3 ∧ Below w0.heap.size w0 w' ∧ KeepBut w w' g none := by
 have HI0 := M_ hI;have GEHI0_ := M_ (IsS86.ge HI0.out);have HK := M_ (KeepBut.refl w g none);have HL := M_ hB.size;clear hI;have HW0 := M_ hB.size;have HB := M_ hB;clear hB
 have H : ((spec_l1Cur_pick.f s0_0 s0_1 s0_2 a1).bind fun bt246 => (some ((bt246.1 == 0), bt246.2.1, bt246.2.2))) = some (r1, r2, r3) := h
 clear h;replace H := Option.bind_eq_some_iff.mp H;obtain ⟨⟨t246, t247, t248⟩, A30, H⟩ := H;replace H : (some ((t246 == 0), t247, t248)) = some (r1, r2, r3) := H;have A3 := M_ A30;clear A30;simp only [Option.some.injEq, Prod.mk.injEq] at H;obtain ⟨rfl, rfl, rfl⟩ := H
 go_enter Try.func133, Try.ntmps133
 go_wp2_with (first | ((with_reducible refine gc_ 75 ?_); refine gM_ (some 7) Try.func75 #[.pointer (some ⟨g, 0, none⟩), .int .i64 a1] ?_; (with_reducible refine (spec_l1Cur_pick.calls g s0_0 s0_1 s0_2 a1 t246 t247 t248 w0 _ ?side1 ?side2 A3.out).mono ?_); (case side1 => exact iU_ HI0); (case side2 => exact bU_ HB); rintro e w4 ⟨rfl, hi, hb, hk⟩; refine ⟨_, rfl, ?_⟩; replace HK := M_ (pT_ HK hk); replace HB := M_ (hb); replace HI0 := M_ (hi); clear hb hk hi))
 go_ret
 exact ⟨eR_, by (try simp only [show IntKind.u64.wrap 0 = 0 from rfl, Int.add_zero]); exact iU_ HI0, bU_ HB, pU_ HK⟩
def spec_l1Cur_among.f (s0_0 : List Int) (s0_1 : Int) (s0_2 : Int) (l1 : List Int) : Option (Int × Int × Int) := (spec_l1Cur_pick.f s0_0 s0_1 s0_2 (l1.length : Int)).bind fun bt249 => (if 0 ≤ bt249.1 then (if bt249.1 < (l1.length : Int) then (some (rd l1 bt249.1, bt249.2.1, bt249.2.2)) else (none)) else (none))
set_option maxHeartbeats 8000000 in
set_option maxRecDepth 100000 in
theorem spec_l1Cur_among.calls (g : Nat) (s0_0 : List Int) (s0_1 : Int) (s0_2 : Int) (A1 : Option Addr) (c1 : Nat) (l1 : List Int) (r1 : Int) (r2 : Int) (r3 : Int) (w0 w : World) (hI : IsS86 w0 w g s0_0 s0_1 s0_2) (hB : Below w0.heap.size w0 w) (hr1 : Kd.C (Kd.int .i64) w A1 l1.length l1) (hc1 : l1.length ≤ c1) (hf1 : ∀ ad, A1 = some ad → 0 < l1.length → ad.block ≠ g) (h : spec_l1Cur_among.f s0_0 s0_1 s0_2 l1 = some (r1, r2, r3)) :
  Calls Try.prog 68 #[.pointer (some ⟨g, 0, none⟩), .slice A1 l1.length c1] w fun e w' => e = .returned (.int .i64 r1) ∧ IsS86 w0 w' g s0_0 r2 r3 ∧ Below w0.heap.size w0 w' ∧ KeepBut w w' g none := by
 have HR1 := M_ hr1;have HC1 := M_ hc1;clear hr1 hc1;have HI0 := M_ hI;have GEHI0_ := M_ (IsS86.ge HI0.out);have HK := M_ (KeepBut.refl w g none);have HL := M_ hB.size;clear hI;have HW0 := M_ hB.size;have HB := M_ hB;clear hB
 have H : ((spec_l1Cur_pick.f s0_0 s0_1 s0_2 (l1.length : Int)).bind fun bt249 => (if 0 ≤ bt249.1 then (if bt249.1 < (l1.length : Int) then (some (rd l1 bt249.1, bt249.2.1, bt249.2.2)) else (none)) else (none))) = some (r1, r2, r3) := h
 clear h;replace H := Option.bind_eq_some_iff.mp H;obtain ⟨⟨t249, t250, t251⟩, A30, H⟩ := H;(try dsimp only at H);have A3 := M_ A30;clear A30
 by_cases c4 : 0 ≤ t249
 ·rw [if_pos c4] at H
  have c4b0 : decide (0 ≤ t249) = true := decide_eq_true c4
  clear c4
  by_cases c5 : t249 < (l1.length : Int)
  ·rw [if_pos c5] at H
   have c5b0 : decide (t249 < (l1.length : Int)) = true := decide_eq_true c5
   clear c5;simp only [Option.some.injEq, Prod.mk.injEq] at H;obtain ⟨rfl, rfl, rfl⟩ := H
   go_enter Try.func68, Try.ntmps68
   go_wp2_with (first | ((with_reducible refine gc_ 75 ?_); refine gM_ (some 9) Try.func75 #[.pointer (some ⟨g, 0, none⟩), .int .i64 (l1.length : Int)] ?_; (with_reducible refine (spec_l1Cur_pick.calls g s0_0 s0_1 s0_2 (l1.length : Int) t249 t250 t251 w0 _ ?side1 ?side2 A3.out).mono ?_); (case side1 => exact iU_ HI0); (case side2 => exact bU_ HB); rintro e w6 ⟨rfl, hi, hb, hk⟩; refine ⟨_, rfl, ?_⟩; replace HK := M_ (pT_ HK hk); replace HB := M_ (hb); replace HI0 := M_ (hi); clear hb hk hi; have p252 : 0 ≤ (t249 : Int) := dT_; have q252 : t249 < (l1.length : Int) := dT_; obtain ⟨ad252, e252, hx252_0⟩ := Kd.at_int HR1.out t249 p252 q252; cases e252; replace hx252_0 := keep_cell HK.out hx252_0 (by first | (rw [add_block]; exact hf1 _ rfl (by omega)) | exact hf1 _ rfl (by omega) | exact hf1 ad252 rfl (by omega)); replace p252 := eq_true p252; replace q252 := eq_true q252))
   go_ret
   exact ⟨eR_, by (try simp only [show IntKind.u64.wrap 0 = 0 from rfl, Int.add_zero]); exact iU_ HI0, bU_ HB, pU_ HK⟩
  ·rw [if_neg c5] at H
   exact absurd H (by simp)
 ·rw [if_neg c4] at H
  exact absurd H (by simp)
end Go.Proofs.Ytgeipgflhjakjaa.PFnPlayable
