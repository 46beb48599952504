-- by wip/xprint.py, over the kit's printer
import Derived.Test.YtpkklbjdhmpjnaaGreatDoorPFnInstrumentsx0
import Derived.Test.YtpkklbjdhmpjnaaGreatDoorPFnInstrumentsx1
import Derived.Test.YtpkklbjdhmpjnaaGreatDoorPFnInstrumentsx2
import Derived.Test.YtpkklbjdhmpjnaaGreatDoorPFnInstrumentsx5
import Derived.Test.YtpkklbjdhmpjnaaGreatDoorPFnInstrumentsx7
namespace Go.Proofs.YtpkklbjdhmpjnaaGreatDoor.PFnInstruments
open Go.RowKit Go.Proofs.YtpkklbjdhmpjnaaGreatDoorW.PrintWords Go.Proofs.YtpkklbjdhmpjnaaGreatDoorW.PrintLast Go.Proofs.YtpkklbjdhmpjnaaGreatDoorW.PrintMore
attribute [local go_sem] max2_int min2_int max_two min_two max_three min_three max_four min_four   -- for this text's walks alone
set_option linter.unusedVariables false
set_option linter.unusedSimpArgs false

mutual
def spec_CommonPitches.j0 : Nat → Bool → List Int → Int → List Int → Int → Option (List Int × Bool)
 | 0, _, _, _, _, _ => none
 | k + 1, x16, x448000, x448001, x449000, x449001 => if x16 = true then (some (([] : List Int), false)) else (spec_CommonPitches.l0 k ([] : List Int) x448000 (x448000.length : Int) 0 x449000 x449001)
def spec_CommonPitches.l0 : Nat → List Int → List Int → Int → Int → List Int → Int → Option (List Int × Bool)
 | 0, _, _, _, _, _, _ => none
 | k + 1, x6, x18, x19, x20, x449000, x449001 => if x20 < x19 then (if 0 ≤ x20 then (if x20 < (x18.length : Int) then ((spec_inTrack.f k x449000 x449001 (rd x18 x20)).bind fun t452 => (if t452 ≥ 0 then (if x6.length < 17592186044416 then (spec_CommonPitches.l0 k (x6 ++ [rd x18 x20]) x18 x19 (wrap64 (x20 + 1)) x449000 x449001) else (none)) else (spec_CommonPitches.l0 k x6 x18 x19 (wrap64 (x20 + 1)) x449000 x449001))) else (none)) else (none)) else (some (x6, true))
end
def spec_CommonPitches.f (k : Nat) (l0_0 : List Int) (a0_1 : Int) (l1_0 : List Int) (a1_1 : Int) : Option (List Int × Bool) := (spec_inGood.f k l0_0 a0_1).bind fun t449 => (if t449 = true then ((spec_inGood.f k l1_0 a1_1).bind fun t450 => (spec_CommonPitches.j0 k (!t450) l0_0 a0_1 l1_0 a1_1)) else (spec_CommonPitches.j0 k true l0_0 a0_1 l1_0 a1_1))
theorem spec_CommonPitches.mono_l : ∀ k, (∀ y0 y1 y2 y3 y4, LeO (spec_CommonPitches.j0 k y0 y1 y2 y3 y4) (spec_CommonPitches.j0 (k + 1) y0 y1 y2 y3 y4)) ∧ (∀ y0 y1 y2 y3 y4 y5, LeO (spec_CommonPitches.l0 k y0 y1 y2 y3 y4 y5) (spec_CommonPitches.l0 (k + 1) y0 y1 y2 y3 y4 y5))
 | 0 => ⟨fun _ _ _ _ _ r h => by simp [spec_CommonPitches.j0] at h, fun _ _ _ _ _ _ r h => by simp [spec_CommonPitches.l0] at h⟩
 | k + 1 => by
  obtain ⟨ih0, ih1⟩ := spec_CommonPitches.mono_l k;refine ⟨?_, ?_⟩
  ·intro y0 y1 y2 y3 y4
   unfold spec_CommonPitches.j0
   have m0_ := @spec_inGood.mono;have m1_ := @spec_inTrack.mono;exact mo_
  ·intro y0 y1 y2 y3 y4 y5
   unfold spec_CommonPitches.l0
   have m0_ := @spec_inGood.mono;have m1_ := @spec_inTrack.mono;exact mo_
theorem spec_CommonPitches.mono : ∀ a0 a1 a2 a3 k, LeO (spec_CommonPitches.f k a0 a1 a2 a3) (spec_CommonPitches.f (k + 1) a0 a1 a2 a3) := by
 intro a0 a1 a2 a3 k;obtain ⟨ih0, ih1⟩ := spec_CommonPitches.mono_l k
 unfold spec_CommonPitches.f
 have m0_ := @spec_inGood.mono;have m1_ := @spec_inTrack.mono;exact mo_
set_option maxHeartbeats 8000000 in
set_option maxRecDepth 100000 in
theorem spec_CommonPitches.calls (k : Nat) (A0_0 : Option Addr) (c0_0 : Nat) (l0_0 : List Int) (a0_1 : Int) (A1_0 : Option Addr) (c1_0 : Nat) (l1_0 : List Int) (a1_1 : Int) (r1 : List Int) (r2 : Bool) (w : World) (hr0_0 : Kd.C (Kd.int .i64) w A0_0 l0_0.length l0_0) (hc0_0 : l0_0.length ≤ c0_0) (hr1_0 : Kd.C (Kd.int .i64) w A1_0 l1_0.length l1_0) (hc1_0 : l1_0.length ≤ c1_0) (h : spec_CommonPitches.f k l0_0 a0_1 l1_0 a1_1 = some (r1, r2)) :
  Calls Tryz.prog 17 #[.agg #[.slice A0_0 l0_0.length c0_0, .int .i64 a0_1], .agg #[.slice A1_0 l1_0.length c1_0, .int .i64 a1_1]] w fun e w' => ∃ v0_ : Value, e = .returned (.tuple #[v0_, .bool r2]) ∧ Kd.R (Kd.int .i64) 3 w' w.heap.size (fun _ => True) v0_ r1 ∧ Below w.heap.size w w' := by
 have hu25 := Tryz.underlying25;have HR0_0 := M_ hr0_0;have HC0_0 := M_ hc0_0;clear hr0_0 hc0_0;have HR1_0 := M_ hr1_0;have HC1_0 := M_ hc1_0;clear hr1_0 hc1_0;have HB := M_ (Below.refl w.heap.size w)
 have H : ((spec_inGood.f k l0_0 a0_1).bind fun t449 => (if t449 = true then ((spec_inGood.f k l1_0 a1_1).bind fun t450 => (spec_CommonPitches.j0 k (!t450) l0_0 a0_1 l1_0 a1_1)) else (spec_CommonPitches.j0 k true l0_0 a0_1 l1_0 a1_1))) = some (r1, r2) := h
 clear h;have HC3 := M_ H;clear H
 go_enter Tryz.func17, Tryz.ntmps17
 go_upto_region 1 with (first | ((with_reducible refine gate_dst (N := 2) rfl ?_); refine bx_ (N := 2) (cs := #[.slice A0_0 l0_0.length c0_0, .int .i64 a0_1]) (t := 25) ?_; intro gb447 hg w4 hbox hb; have BK447 := M_ (hbox); have GW447 := M_ (gw_ HB hg); have GE447 := M_ (gw_ HB hg); replace HB := M_ (bS_ HB hb); clear hb hbox hg) | ((with_reducible refine gate_dst (N := 3) rfl ?_); refine bx_ (N := 3) (cs := #[.slice A1_0 l1_0.length c1_0, .int .i64 a1_1]) (t := 25) ?_; intro gb448 hg w5 hbox hb; have BK448 := M_ (hbox); have GW448 := M_ (gw_ HB hg); have GE448 := M_ (gw_ HB hg); replace HB := M_ (bS_ HB hb); have NB447_448 := M_ (nb_ BK447 hg); have NB448_447 := M_ ((by rw [hg]; exact Nat.ne_of_gt (blk_lt (kU_ BK447)) : gb448 ≠ gb447)); replace BK447 := M_ (kb_ BK447 hb); clear hb hbox hg))
 (try simp only [Act.put, la_, lb_, lc_])
 go_cut [16] (fun v16 wc => ∃ (kq : Nat) (x16_2 : Bool), v16 = .bool x16_2 ∧ Aside0 (spec_CommonPitches.j0 kq x16_2 l0_0 a0_1 l1_0 a1_1 = some (r1, r2)) ∧ Aside0 (kq ≤ k) ∧ Aside0 (wc.heap[gb447]? = some (.cells #[(.slice A0_0 l0_0.length c0_0), .int .i64 a0_1] 25 (0, 0))) ∧ Aside0 (wc.heap[gb448]? = some (.cells #[(.slice A1_0 l1_0.length c1_0), .int .i64 a1_1] 25 (0, 0))) ∧ Aside0 (Below w.heap.size w wc))
 case first =>
  have H := HC3.out;clear HC3;replace H := Option.bind_eq_some_iff.mp H;obtain ⟨t449, A60, H⟩ := H;(try dsimp only at H);have A6 := M_ A60;clear A60
  by_cases c7 : t449 = true
  ·subst c7
   rw [if_pos rfl] at H
   replace H := Option.bind_eq_some_iff.mp H;obtain ⟨t450, A80, H⟩ := H;(try dsimp only at H);have A8 := M_ A80;clear A80
   have H' := M_ H
   clear H;have hnb9 := NB447_448.out;have hnc9 := NB448_447.out;obtain ⟨hcz10_0, hcz10_1, hfz10_0, hfz10_1⟩ := bq2_ BK447
   go_wp2_with (first | ((with_reducible refine gc_ 27 ?_); refine gM_ (some 10) Tryz.func27 #[.agg #[.slice A0_0 l0_0.length c0_0, .int .i64 a0_1]] ?_; (with_reducible refine (spec_inGood.calls k _ _ l0_0 a0_1 true _ ?side1 ?side2 A6.out).mono ?_); (case side1 => exact cU_ (Kd.C_below HR0_0.out HB.out)); (case side2 => exact HC0_0.out); rintro e w11 ⟨rfl, hb⟩; refine ⟨_, rfl, ?_⟩; replace BK447 := M_ (kb_ BK447 hb); replace BK448 := M_ (kb_ BK448 hb); replace HB := M_ (bS_ HB hb); clear hb; obtain ⟨hcz12_0, hcz12_1, hfz12_0, hfz12_1⟩ := bq2_ BK448) | (go_at_call 27; (with_reducible refine (spec_inGood.calls k _ _ l1_0 a1_1 t450 _ ?side1 ?side2 A8.out).mono ?_); (case side1 => exact cU_ (Kd.C_below HR1_0.out HB.out)); (case side2 => exact HC1_0.out); rintro e w13 ⟨rfl, hb⟩; replace BK447 := M_ (kb_ BK447 hb); replace BK448 := M_ (kb_ BK448 hb); replace HB := M_ (bS_ HB hb); clear hb))
   go_meet
   case rel => exact ⟨_, (!t450), eD_, H', ⟨by first | omega | exact Nat.le_refl _⟩, ⟨kU_ BK447⟩, ⟨kU_ BK448⟩, ⟨bU_ HB⟩⟩
  ·replace c7 := Bool.eq_false_iff.mpr c7
   subst c7
   rw [if_neg (show ¬ (false = true) by decide)] at H
   have H' := M_ H
   clear H;have hnb14 := NB447_448.out;have hnc14 := NB448_447.out;obtain ⟨hcz15_0, hcz15_1, hfz15_0, hfz15_1⟩ := bq2_ BK447
   go_wp2_with (first | ((with_reducible refine gc_ 27 ?_); refine gM_ (some 10) Tryz.func27 #[.agg #[.slice A0_0 l0_0.length c0_0, .int .i64 a0_1]] ?_; (with_reducible refine (spec_inGood.calls k _ _ l0_0 a0_1 false _ ?side1 ?side2 A6.out).mono ?_); (case side1 => exact cU_ (Kd.C_below HR0_0.out HB.out)); (case side2 => exact HC0_0.out); rintro e w16 ⟨rfl, hb⟩; refine ⟨_, rfl, ?_⟩; replace BK447 := M_ (kb_ BK447 hb); replace BK448 := M_ (kb_ BK448 hb); replace HB := M_ (bS_ HB hb); clear hb))
   go_meet
   case rel => exact ⟨_, (true), eD_, H', ⟨by first | omega | exact Nat.le_refl _⟩, ⟨kU_ BK447⟩, ⟨kU_ BK448⟩, ⟨bU_ HB⟩⟩
 case rest =>
  clear HC3;obtain ⟨kq, x16_2, rfl, HA, HJ2, BK447, BK448, HB⟩ := hcut
  cases kq with
  | zero => exact absurd HA.out (by simp [spec_CommonPitches.j0])
  | succ kj2 =>
   have H := HA.out;clear HA;simp only [spec_CommonPitches.j0] at H
   by_cases c17 : x16_2 = true
   ·subst c17
    rw [if_pos rfl] at H
    simp only [Option.some.injEq, Prod.mk.injEq] at H;obtain ⟨rfl, rfl⟩ := H
    go_wp2
    go_ret2
    exact ⟨_, eR_, by first | exact Kd.R_nil _ _ _ _ _ | exact Kd.N_nil _ _ _ _ _ | exact Kd.V_nil _ _ _ _ _ | exact Kd.Q_nil _ _ _ _ _ | exact Kd.S_nil _ _ _ _ _, bU_ HB⟩
   ·replace c17 := Bool.eq_false_iff.mpr c17
    subst c17
    rw [if_neg (show ¬ (false = true) by decide)] at H
    have H' := M_ H
    clear H;have hnb18 := NB447_448.out;have hnc18 := NB448_447.out;obtain ⟨hcz19_0, hcz19_1, hfz19_0, hfz19_1⟩ := bq2_ BK447
    go_wp2
    go_loopg [6, 20] kj2 (fun kq v6 v20 w' => ∃ (x6_2 : List Int) (x20_2 : Int), v20 = .int .i64 x20_2 ∧ Aside0 (spec_CommonPitches.l0 kq x6_2 l0_0 (l0_0.length : Int) x20_2 l1_0 a1_1 = some (r1, r2)) ∧ Aside0 (kq ≤ kj2) ∧ Aside0 (Kd.R (Kd.int .i64) 3 w' w.heap.size (fun _ => True) v6 x6_2) ∧ Aside0 (w'.heap[gb447]? = some (.cells #[(.slice A0_0 l0_0.length c0_0), .int .i64 a0_1] 25 (0, 0))) ∧ Aside0 (w'.heap[gb448]? = some (.cells #[(.slice A1_0 l1_0.length c1_0), .int .i64 a1_1] 25 (0, 0))) ∧ Aside0 (Below w.heap.size w w'))
    case atStart => exact ⟨(([] : List Int)), (0), eD_, H', ⟨Nat.le_refl _⟩, ⟨by first | exact Kd.R_nil _ _ _ _ _ | exact Kd.N_nil _ _ _ _ _ | exact Kd.V_nil _ _ _ _ _ | exact Kd.Q_nil _ _ _ _ _ | exact Kd.S_nil _ _ _ _ _⟩, ⟨kU_ BK447⟩, ⟨kU_ BK448⟩, ⟨bU_ HB⟩⟩
    case round =>
     clear H';obtain ⟨x6_2, x20_2, rfl, HA, HK2, HO_6, BK447, BK448, HB⟩ := hrel
     cases gk with
     | zero => exact absurd HA.out (by simp [spec_CommonPitches.l0])
     | succ k2 =>
      have H := HA.out;clear HA;simp only [spec_CommonPitches.l0] at H
      by_cases c20 : x20_2 < (l0_0.length : Int)
      ·rw [if_pos c20] at H
       have c20b0 : decide (x20_2 < (l0_0.length : Int)) = true := decide_eq_true c20
       clear c20
       by_cases c21 : 0 ≤ x20_2
       ·rw [if_pos c21] at H
        have c21b0 : decide (0 ≤ x20_2) = true := decide_eq_true c21
        clear c21
        by_cases c22 : x20_2 < (l0_0.length : Int)
        ·rw [if_pos c22] at H
         have c22b0 : decide (x20_2 < (l0_0.length : Int)) = true := decide_eq_true c22
         clear c22;replace H := Option.bind_eq_some_iff.mp H;obtain ⟨t452, A230, H⟩ := H;(try dsimp only at H);have A23 := M_ A230;clear A230
         by_cases c24 : t452 ≥ 0
         ·rw [if_pos c24] at H
          have c24b0 : decide (0 ≤ t452) = true := decide_eq_true c24
          clear c24
          by_cases c25 : x6_2.length < 17592186044416
          ·rw [if_pos c25] at H
           have LMc25 := M_ c25;clear c25;obtain ⟨y453, hy453⟩ : ∃ y_ : List Int, y_ = (x6_2 ++ [rd l0_0 x20_2]) := ⟨_, rfl⟩
           replace H : (spec_CommonPitches.l0 k2 y453 l0_0 (l0_0.length : Int) (wrap64 (x20_2 + 1)) l1_0 a1_1) = some (r1, r2) := by first | (rw [hy453]; with_reducible exact H) | (have H2_ := (Option.bind_some _ _).symm.trans H; rw [hy453]; with_reducible exact H2_) | (have H2_ := (Option.bind_some _ _).symm.trans H; with_reducible exact H2_) | with_reducible exact H | (rw [hy453]; exact H) | exact H
           have Ny453 := M_ hy453;clear hy453
           have H' := M_ H
           clear H
           have p451 : 0 ≤ (x20_2 : Int) := dT_
           have q451 : x20_2 < (l0_0.length : Int) := dT_
           obtain ⟨ad451, e451, hx451_0⟩ := Kd.at_int HR0_0.out x20_2 p451 q451;cases e451;replace hx451_0 := (HB.out.cell (World.block_lt_of_cell? w _ hx451_0)).trans hx451_0;replace p451 := eq_true p451;replace q451 := eq_true q451;have hnb26 := NB448_447.out;have hnc26 := NB447_448.out;obtain ⟨hcz27_0, hcz27_1, hfz27_0, hfz27_1⟩ := bq2_ BK448
           go_wp2_with (first | ((with_reducible refine gc_ 35 ?_); refine gM_ (some 26) Tryz.func35 #[.agg #[.slice A1_0 l1_0.length c1_0, .int .i64 a1_1], .int .i64 (rd l0_0 x20_2)] ?_; (with_reducible refine (spec_inTrack.calls k2 _ _ l1_0 a1_1 (rd l0_0 x20_2) t452 _ ?side1 ?side2 A23.out).mono ?_); (case side1 => exact cU_ (Kd.C_below HR1_0.out HB.out)); (case side2 => exact HC1_0.out); rintro e w28 ⟨rfl, hb⟩; refine ⟨_, rfl, ?_⟩; replace HO_6 := M_ (rB_ HO_6 hb); replace BK447 := M_ (kb_ BK447 hb); replace BK448 := M_ (kb_ BK448 hb); replace HB := M_ (bS_ HB hb); clear hb) | ((with_reducible refine gate_builtin (b := .append) (xs := #[.tmp 28, .tmp 30]) rfl ?_); at_builtin; refine Kd.R_append (Kd.int .i64) (w0 := w) w.heap.size rfl (.tmp 28) (.tmp 30) 23 3 (.int .i64 0) 8 rfl Tryz.underlying23 info3 rfl (by decide) (by omega) u6 x6_2 (rd l0_0 x20_2) [.int .i64 (rd l0_0 x20_2)] (fun _ => True) (fun _ => False) rfl rfl ?aP (fun _ hk => hk.elim) ?aF ?aO ?aB ?aS ?aL ?_; (case aP => exact rfl); (case aB => exact (bU_ HB)); (case aF => exact (fun _ _ => trivial)); (case aO => exact (rU_ HO_6.out)); (case aS => exact (bZ_ HB)); (case aL => have := LMc25.out; omega); intro v454 w29 ho hb hg hat; rw [← Ny453.out] at ho; replace BK447 := M_ (kg_ BK447 hg (Kd.R_ne HO_6.out BK447.out (by decide))); replace BK448 := M_ (kg_ BK448 hg (Kd.R_ne HO_6.out BK448.out (by decide))); replace HB := M_ (hb); have HO455 := M_ (ho); clear HO_6; clear ho hb hg hat))
           go_roundg k2
           case measure => have := HJ2.out; have := HK2.out; omega
           case rel => exact ⟨(y453), (wrap64 (x20_2 + 1)), eD_, H', ⟨by have := HJ2.out; have := HK2.out; omega⟩, ⟨rU_ HO455.out⟩, ⟨kU_ BK447⟩, ⟨kU_ BK448⟩, ⟨bU_ HB⟩⟩
          ·rw [if_neg c25] at H
           exact absurd H (by simp)
         ·rw [if_neg c24] at H
          have c24b0 : decide (0 ≤ t452) = false := decide_eq_false c24
          clear c24
          have H' := M_ H
          clear H
          have p451 : 0 ≤ (x20_2 : Int) := dT_
          have q451 : x20_2 < (l0_0.length : Int) := dT_
          obtain ⟨ad451, e451, hx451_0⟩ := Kd.at_int HR0_0.out x20_2 p451 q451;cases e451;replace hx451_0 := (HB.out.cell (World.block_lt_of_cell? w _ hx451_0)).trans hx451_0;replace p451 := eq_true p451;replace q451 := eq_true q451;have hnb30 := NB448_447.out;have hnc30 := NB447_448.out;obtain ⟨hcz31_0, hcz31_1, hfz31_0, hfz31_1⟩ := bq2_ BK448
          go_wp2_with (first | ((with_reducible refine gc_ 35 ?_); refine gM_ (some 26) Tryz.func35 #[.agg #[.slice A1_0 l1_0.length c1_0, .int .i64 a1_1], .int .i64 (rd l0_0 x20_2)] ?_; (with_reducible refine (spec_inTrack.calls k2 _ _ l1_0 a1_1 (rd l0_0 x20_2) t452 _ ?side1 ?side2 A23.out).mono ?_); (case side1 => exact cU_ (Kd.C_below HR1_0.out HB.out)); (case side2 => exact HC1_0.out); rintro e w32 ⟨rfl, hb⟩; refine ⟨_, rfl, ?_⟩; replace HO_6 := M_ (rB_ HO_6 hb); replace BK447 := M_ (kb_ BK447 hb); replace BK448 := M_ (kb_ BK448 hb); replace HB := M_ (bS_ HB hb); clear hb))
          go_roundg k2
          case measure => have := HJ2.out; have := HK2.out; omega
          case rel => exact ⟨(x6_2), (wrap64 (x20_2 + 1)), eD_, H', ⟨by have := HJ2.out; have := HK2.out; omega⟩, ⟨rU_ HO_6.out⟩, ⟨kU_ BK447⟩, ⟨kU_ BK448⟩, ⟨bU_ HB⟩⟩
        ·rw [if_neg c22] at H
         exact absurd H (by simp)
       ·rw [if_neg c21] at H
        exact absurd H (by simp)
      ·rw [if_neg c20] at H
       have c20b0 : decide (x20_2 < (l0_0.length : Int)) = false := decide_eq_false c20
       clear c20;simp only [Option.some.injEq, Prod.mk.injEq] at H;obtain ⟨rfl, rfl⟩ := H
       go_wp2
       go_ret2
       exact ⟨_, eR_, rU_ HO_6.out, bU_ HB⟩

mutual
def spec_l1Cur_spoilt.l0 : Nat → ByteArray → ByteArray → Int → List Int → Int → Int → Option (ByteArray × Int × Int)
 | 0, _, _, _, _, _, _ => none
 | k + 1, x1, x2, x7, x1000, x1001, x1002 => if x7 > 0 then (spec_l1Cur_spoilt.j1 k x1 x2 x7 (decide ((x1.size : Int) > 0)) x1000 x1001 x1002) else (spec_l1Cur_spoilt.j1 k x1 x2 x7 false x1000 x1001 x1002)
def spec_l1Cur_spoilt.j1 : Nat → ByteArray → ByteArray → Int → Bool → List Int → Int → Int → Option (ByteArray × Int × Int)
 | 0, _, _, _, _, _, _, _ => none
 | k + 1, x1, x2, x7, x19, x1000, x1001, x1002 => if x19 = true then ((spec_l1Cur_pick.f x1000 x1001 x1002 (x1.size : Int)).bind fun bt459 => ((spec_l1Cur_pick.f x1000 bt459.2.1 bt459.2.2 (x2.size : Int)).bind fun bt462 => (if 0 ≤ bt462.1 then (if bt462.1 < (x2.size : Int) then ((some (([bt x2 bt462.1] : List Int) : List Int)).bind fun y465 => ((spec_l1Cur_pick.f x1000 bt462.2.1 bt462.2.2 3).bind fun bt468 => (if bt468.1 = 0 then (if 0 ≤ bt459.1 then (if bt459.1 ≤ (x1.size : Int) then (if (x1.extract 0 (bt459.1 : Int).toNat).size + (strOfNums y465).size ≤ 9223372036854775807 then (if ((x1.extract 0 (bt459.1 : Int).toNat) ++ (strOfNums y465)).size + (x1.extract (bt459.1 : Int).toNat x1.size).size ≤ 9223372036854775807 then (spec_l1Cur_spoilt.l0 k (((x1.extract 0 (bt459.1 : Int).toNat) ++ (strOfNums y465)) ++ (x1.extract (bt459.1 : Int).toNat x1.size)) x2 (wrap64 (x7 - 1)) x1000 bt468.2.1 bt468.2.2) else (none)) else (none)) else (none)) else (none)) else (if bt468.1 = 1 then (if 0 ≤ bt459.1 then (if bt459.1 ≤ (x1.size : Int) then (if (x1.extract 0 (bt459.1 : Int).toNat).size + (strOfNums y465).size ≤ 9223372036854775807 then (if 0 ≤ (wrap64 (bt459.1 + 1)) then (if (wrap64 (bt459.1 + 1)) ≤ (x1.size : Int) then (if ((x1.extract 0 (bt459.1 : Int).toNat) ++ (strOfNums y465)).size + (x1.extract ((wrap64 (bt459.1 + 1)) : Int).toNat x1.size).size ≤ 9223372036854775807 then (spec_l1Cur_spoilt.l0 k (((x1.extract 0 (bt459.1 : Int).toNat) ++ (strOfNums y465)) ++ (x1.extract ((wrap64 (bt459.1 + 1)) : Int).toNat x1.size)) x2 (wrap64 (x7 - 1)) x1000 bt468.2.1 bt468.2.2) else (none)) else (none)) else (none)) else (none)) else (none)) else (none)) else (if 0 ≤ bt459.1 then (if bt459.1 ≤ (x1.size : Int) then (if 0 ≤ (wrap64 (bt459.1 + 1)) then (if (wrap64 (bt459.1 + 1)) ≤ (x1.size : Int) then (if (x1.extract 0 (bt459.1 : Int).toNat).size + (x1.extract ((wrap64 (bt459.1 + 1)) : Int).toNat x1.size).size ≤ 9223372036854775807 then (spec_l1Cur_spoilt.l0 k ((x1.extract 0 (bt459.1 : Int).toNat) ++ (x1.extract ((wrap64 (bt459.1 + 1)) : Int).toNat x1.size)) x2 (wrap64 (x7 - 1)) x1000 bt468.2.1 bt468.2.2) else (none)) else (none)) else (none)) else (none)) else (none)))))) else (none)) else (none)))) else (some (x1, x1001, x1002))
end
def spec_l1Cur_spoilt.f (k : Nat) (s0_0 : List Int) (s0_1 : Int) (s0_2 : Int) (a1 : ByteArray) (a2 : ByteArray) : Option (ByteArray × Int × Int) := (spec_l1Cur_pick.f s0_0 s0_1 s0_2 2).bind fun bt456 => (spec_l1Cur_spoilt.l0 k a1 a2 (wrap64 (1 + bt456.1)) s0_0 bt456.2.1 bt456.2.2)
set_option maxHeartbeats 4000000 in
theorem spec_l1Cur_spoilt.mono_l : ∀ k, (∀ y0 y1 y2 y3 y4 y5, LeO (spec_l1Cur_spoilt.l0 k y0 y1 y2 y3 y4 y5) (spec_l1Cur_spoilt.l0 (k + 1) y0 y1 y2 y3 y4 y5)) ∧ (∀ y0 y1 y2 y3 y4 y5 y6, LeO (spec_l1Cur_spoilt.j1 k y0 y1 y2 y3 y4 y5 y6) (spec_l1Cur_spoilt.j1 (k + 1) y0 y1 y2 y3 y4 y5 y6))
 | 0 => ⟨fun _ _ _ _ _ _ r h => by simp [spec_l1Cur_spoilt.l0] at h, fun _ _ _ _ _ _ _ r h => by simp [spec_l1Cur_spoilt.j1] at h⟩
 | k + 1 => by
  obtain ⟨ih0, ih1⟩ := spec_l1Cur_spoilt.mono_l k;refine ⟨?_, ?_⟩
  ·intro y0 y1 y2 y3 y4 y5
   unfold spec_l1Cur_spoilt.l0
   exact mo_
  ·intro y0 y1 y2 y3 y4 y5 y6
   unfold spec_l1Cur_spoilt.j1
   exact mo_
theorem spec_l1Cur_spoilt.mono : ∀ a0 a1 a2 a3 a4 k, LeO (spec_l1Cur_spoilt.f k a0 a1 a2 a3 a4) (spec_l1Cur_spoilt.f (k + 1) a0 a1 a2 a3 a4) := by
 intro a0 a1 a2 a3 a4 k;obtain ⟨ih0, ih1⟩ := spec_l1Cur_spoilt.mono_l k
 unfold spec_l1Cur_spoilt.f
 exact mo_
set_option maxHeartbeats 8000000 in
set_option maxRecDepth 100000 in
theorem spec_l1Cur_spoilt.calls (k : Nat) (g : Nat) (s0_0 : List Int) (s0_1 : Int) (s0_2 : Int) (a1 : ByteArray) (a2 : ByteArray) (r1 : ByteArray) (r2 : Int) (r3 : Int) (w0 w : World) (hI : IsS55 w0 w g s0_0 s0_1 s0_2) (hB : Below w0.heap.size w0 w) (h : spec_l1Cur_spoilt.f k s0_0 s0_1 s0_2 a1 a2 = some (r1, r2, r3)) :
  Calls Tryz.prog 44 #[.pointer (some ⟨g, 0, none⟩), .string a1, .string a2] w fun e w' => e = .returned (.string r1) ∧ IsS55 w0 w' g s0_0 r2 r3 ∧ Below w0.heap.size w0 w' ∧ KeepBut w w' g none := by
 have HI0 := M_ hI;have GEHI0_ := M_ (IsS55.ge HI0.out);have HK := M_ (KeepBut.refl w g none);have HL := M_ hB.size;clear hI;have HW0 := M_ hB.size;have HB := M_ hB;clear hB
 have H : ((spec_l1Cur_pick.f s0_0 s0_1 s0_2 2).bind fun bt456 => (spec_l1Cur_spoilt.l0 k a1 a2 (wrap64 (1 + bt456.1)) s0_0 bt456.2.1 bt456.2.2)) = some (r1, r2, r3) := h
 clear h;replace H := Option.bind_eq_some_iff.mp H;obtain ⟨⟨t456, t457, t458⟩, A40, H⟩ := H;(try dsimp only at H);have A4 := M_ A40;clear A40
 have H' := M_ H
 clear H
 go_enter Tryz.func44, Tryz.ntmps44
 go_wp2_with (first | (go_at_call 40; (with_reducible refine (spec_l1Cur_pick.calls g s0_0 s0_1 s0_2 2 t456 t457 t458 w0 _ ?side1 ?side2 A4.out).mono ?_); (case side1 => exact iU_ HI0); (case side2 => exact bU_ HB); rintro e w5 ⟨rfl, hi, hb, hk⟩; replace HK := M_ (pT_ HK hk); replace HB := M_ (hb); replace HI0 := M_ (hi); clear hb hk hi))
 repeat (go_quiet (first | (go_at_call 40; (with_reducible refine (spec_l1Cur_pick.calls g s0_0 s0_1 s0_2 2 t456 t457 t458 w0 _ ?side1 ?side2 A4.out).mono ?_); (case side1 => exact iU_ HI0); (case side2 => exact bU_ HB); rintro e w5 ⟨rfl, hi, hb, hk⟩; replace HK := M_ (pT_ HK hk); replace HB := M_ (hb); replace HI0 := M_ (hi); clear hb hk hi)); try go_wp2_with (first | (go_at_call 40; (with_reducible refine (spec_l1Cur_pick.calls g s0_0 s0_1 s0_2 2 t456 t457 t458 w0 _ ?side1 ?side2 A4.out).mono ?_); (case side1 => exact iU_ HI0); (case side2 => exact bU_ HB); rintro e w5 ⟨rfl, hi, hb, hk⟩; replace HK := M_ (pT_ HK hk); replace HB := M_ (hb); replace HI0 := M_ (hi); clear hb hk hi)))
 go_loopg [1, 7] k (fun kq v1 v7 w' => ∃ (x1_1 : ByteArray) (x7_1 : Int) (x1001_1 : Int) (x1002_1 : Int), v1 = .string x1_1 ∧ v7 = .int .i64 x7_1 ∧ Aside0 (spec_l1Cur_spoilt.l0 kq x1_1 a2 x7_1 s0_0 x1001_1 x1002_1 = some (r1, r2, r3)) ∧ Aside0 (kq ≤ k) ∧ Aside0 (IsS55 w0 w' g s0_0 x1001_1 x1002_1) ∧ Aside0 (KeepBut w w' g none) ∧ Aside0 (Below w0.heap.size w0 w'))
 case atStart => exact ⟨(a1), (wrap64 (1 + t456)), (t457), (t458), eD_, eD_, H', ⟨Nat.le_refl _⟩, ⟨iU_ HI0⟩, ⟨pU_ HK⟩, ⟨bU_ HB⟩⟩
 case round =>
  clear H';obtain ⟨x1_1, x7_1, x1001_1, x1002_1, rfl, rfl, HA, HK1, HI0, HK, HB⟩ := hrel
  cases gk with
  | zero => exact absurd HA.out (by simp [spec_l1Cur_spoilt.l0])
  | succ k1 =>
   have H := HA.out;clear HA;simp only [spec_l1Cur_spoilt.l0] at H;have HC6 := M_ H;clear H
   go_upto_region 2 with (fail)
   repeat (go_quiet (fail); go_upto_region 2 with (fail))
   go_cut [19] (fun v19 wc => ∃ (kq : Nat) (x19_5 : Bool), v19 = .bool x19_5 ∧ Aside0 (spec_l1Cur_spoilt.j1 kq x1_1 a2 x7_1 x19_5 s0_0 x1001_1 x1002_1 = some (r1, r2, r3)) ∧ Aside0 (kq ≤ k1) ∧ Aside0 (IsS55 w0 wc g s0_0 x1001_1 x1002_1) ∧ Aside0 (KeepBut w wc g none) ∧ Aside0 (Below w0.heap.size w0 wc))
   case first =>
    have H := HC6.out;clear HC6
    by_cases c7 : x7_1 > 0
    ·rw [if_pos c7] at H
     have c7b0 : decide (0 < x7_1) = true := decide_eq_true c7
     clear c7
     (first | rw [c7b0] | (simp only [i64_w, i32_w]; rw [c7b0]) | skip)
     have H' := M_ H
     clear H
     go_wp2
     repeat (go_quiet (fail); try go_wp2)
     go_meet
     case rel => exact ⟨_, (decide ((x1_1.size : Int) > 0)), eD_, H', ⟨by have := HK1.out; first | omega | exact Nat.le_refl _⟩, ⟨iU_ HI0⟩, ⟨pU_ HK⟩, ⟨bU_ HB⟩⟩
    ·rw [if_neg c7] at H
     have c7b0 : decide (0 < x7_1) = false := decide_eq_false c7
     clear c7
     (first | rw [c7b0] | (simp only [i64_w, i32_w]; rw [c7b0]) | skip)
     have H' := M_ H
     clear H
     go_wp2
     repeat (go_quiet (fail); try go_wp2)
     go_meet
     case rel => exact ⟨_, (false), eD_, H', ⟨by have := HK1.out; first | omega | exact Nat.le_refl _⟩, ⟨iU_ HI0⟩, ⟨pU_ HK⟩, ⟨bU_ HB⟩⟩
   case rest =>
    clear HC6;obtain ⟨kq, x19_5, rfl, HA, HJ5, HI0, HK, HB⟩ := hcut
    cases kq with
    | zero => exact absurd HA.out (by simp [spec_l1Cur_spoilt.j1])
    | succ kj5 =>
     have H := HA.out;clear HA;simp only [spec_l1Cur_spoilt.j1] at H
     by_cases c8 : x19_5 = true
     ·subst c8
      rw [if_pos rfl] at H
      replace H := Option.bind_eq_some_iff.mp H;obtain ⟨⟨t459, t460, t461⟩, A90, H⟩ := H;(try dsimp only at H);have A9 := M_ A90;clear A90;replace H := Option.bind_eq_some_iff.mp H;obtain ⟨⟨t462, t463, t464⟩, A100, H⟩ := H;(try dsimp only at H);have A10 := M_ A100;clear A100
      by_cases c11 : 0 ≤ t462
      ·rw [if_pos c11] at H
       have c11b0 : decide (0 ≤ t462) = true := decide_eq_true c11
       clear c11
       by_cases c12 : t462 < (a2.size : Int)
       ·rw [if_pos c12] at H
        have c12b0 : decide (t462 < (a2.size : Int)) = true := decide_eq_true c12
        clear c12;obtain ⟨y465, hy465, H⟩ := ob_ H;(try dsimp only at H);have Ny465 := M_ hy465;clear hy465;replace H := Option.bind_eq_some_iff.mp H;obtain ⟨⟨t468, t469, t470⟩, A140, H⟩ := H;(try dsimp only at H);have A14 := M_ A140;clear A140
        by_cases c15 : t468 = 0
        ·rw [if_pos c15] at H
         have c15b0 : (t468 == 0) = true := beq_iff_eq.mpr c15
         have c15b1 : (t468 != 0) = false := bne_eq_false_iff_eq.mpr c15
         clear c15
         by_cases c16 : 0 ≤ t459
         ·rw [if_pos c16] at H
          have c16b0 := eq_true c16
          have c16b1 : decide (0 ≤ t459) = true := decide_eq_true c16
          clear c16
          by_cases c17 : t459 ≤ (x1_1.size : Int)
          ·rw [if_pos c17] at H
           have c17b0 := eq_true c17
           have c17b1 : decide (t459 ≤ (x1_1.size : Int)) = true := decide_eq_true c17
           clear c17
           by_cases c18 : (x1_1.extract 0 (t459 : Int).toNat).size + (strOfNums y465).size ≤ 9223372036854775807
           ·rw [if_pos c18] at H
            have c18b0 := eq_true c18
            have c18b1 : decide ((x1_1.extract 0 (t459 : Int).toNat).size + (strOfNums y465).size ≤ 9223372036854775807) = true := decide_eq_true c18
            try have c18b2 : (9223372036854775807 < (x1_1.extract 0 (t459 : Int).toNat).size + (strOfNums y465).size) = False := eq_false (Nat.not_lt.2 c18)
            have c19b0 := eq_true (dT_ : 0 ≤ t459);have c20b0 := eq_true (dT_ : t459 ≤ (x1_1.size : Int))
            by_cases c21 : ((x1_1.extract 0 (t459 : Int).toNat) ++ (strOfNums y465)).size + (x1_1.extract (t459 : Int).toNat x1_1.size).size ≤ 9223372036854775807
            ·rw [if_pos c21] at H
             have c21b0 := eq_true c21
             have c21b1 : decide (((x1_1.extract 0 (t459 : Int).toNat) ++ (strOfNums y465)).size + (x1_1.extract (t459 : Int).toNat x1_1.size).size ≤ 9223372036854775807) = true := decide_eq_true c21
             try have c21b2 : (9223372036854775807 < ((x1_1.extract 0 (t459 : Int).toNat) ++ (strOfNums y465)).size + (x1_1.extract (t459 : Int).toNat x1_1.size).size) = False := eq_false (Nat.not_lt.2 c21)
             have c21s := c21
             try simp only [ByteArray.size_append, ByteArray.size_append] at c21s
             have c21s0 := eq_true c21s;have c21s1 := decide_eq_true c21s
             try have c21s2 := eq_false (Nat.not_lt.2 c21s)
             have H' := M_ H
             clear H
             go_wp2_with (first | (go_at_call 40; (with_reducible refine (spec_l1Cur_pick.calls g s0_0 x1001_1 x1002_1 (x1_1.size : Int) t459 t460 t461 w0 _ ?side1 ?side2 A9.out).mono ?_); (case side1 => exact iU_ HI0); (case side2 => exact bU_ HB); rintro e w22 ⟨rfl, hi, hb, hk⟩; replace HK := M_ (pT_ HK hk); replace HB := M_ (hb); replace HI0 := M_ (hi); clear hb hk hi) | (go_at_call 40; (with_reducible refine (spec_l1Cur_pick.calls g s0_0 t460 t461 (a2.size : Int) t462 t463 t464 w0 _ ?side1 ?side2 A10.out).mono ?_); (case side1 => exact iU_ HI0); (case side2 => exact bU_ HB); rintro e w23 ⟨rfl, hi, hb, hk⟩; replace HK := M_ (pT_ HK hk); replace HB := M_ (hb); replace HI0 := M_ (hi); clear hb hk hi; have p13 : 0 ≤ (t462 : Int) := dT_; have q13 : t462 < (a2.size : Int) := dT_; have hx13 := bt_at a2 t462; replace p13 := eq_true p13; replace q13 := eq_true q13) | ((with_reducible refine gate_dst (N := 32) rfl ?_); (try (refine gate_guard (by rfl) ?_; dsimp only)); refine lt_ (Kd.int .u8) 5 (N := 32) (([bt a2 t462] : List Int)) [.int .u8 (bt a2 t462)] ri_ ?_; intro v466 w24 ho25 hb hg_ hnew_; clear hg_ hnew_; replace ho25 := rN_ Ny465 ho25; have HO467 := M_ (Kd.R_lower ho25 (pS_ (w := w) (g := g) HK)); replace HI0 := M_ (IsS55.below (iU_ HI0) hb); replace HK := M_ (pB_ HK hb); replace HB := M_ (bS_ HB hb); clear hb ho25; have hcv26 := own_string (P := Tryz.prog) Tryz.underlying22 Tryz.underlying5 Tryz.underlying9 (Kd.own_of_R HO467.out)) | (go_at_call 40; (with_reducible refine (spec_l1Cur_pick.calls g s0_0 t463 t464 3 t468 t469 t470 w0 _ ?side1 ?side2 A14.out).mono ?_); (case side1 => exact iU_ HI0); (case side2 => exact bU_ HB); rintro e w27 ⟨rfl, hi, hb, hk⟩; replace HO467 := M_ (ik_ HI0 HO467 hk); replace HK := M_ (pT_ HK hk); replace HB := M_ (hb); replace HI0 := M_ (hi); clear hb hk hi))
             repeat (go_quiet (first | (go_at_call 40; (with_reducible refine (spec_l1Cur_pick.calls g s0_0 x1001_1 x1002_1 (x1_1.size : Int) t459 t460 t461 w0 _ ?side1 ?side2 A9.out).mono ?_); (case side1 => exact iU_ HI0); (case side2 => exact bU_ HB); rintro e w22 ⟨rfl, hi, hb, hk⟩; replace HK := M_ (pT_ HK hk); replace HB := M_ (hb); replace HI0 := M_ (hi); clear hb hk hi) | (go_at_call 40; (with_reducible refine (spec_l1Cur_pick.calls g s0_0 t460 t461 (a2.size : Int) t462 t463 t464 w0 _ ?side1 ?side2 A10.out).mono ?_); (case side1 => exact iU_ HI0); (case side2 => exact bU_ HB); rintro e w23 ⟨rfl, hi, hb, hk⟩; replace HK := M_ (pT_ HK hk); replace HB := M_ (hb); replace HI0 := M_ (hi); clear hb hk hi; have p13 : 0 ≤ (t462 : Int) := dT_; have q13 : t462 < (a2.size : Int) := dT_; have hx13 := bt_at a2 t462; replace p13 := eq_true p13; replace q13 := eq_true q13) | ((with_reducible refine gate_dst (N := 32) rfl ?_); (try (refine gate_guard (by rfl) ?_; dsimp only)); refine lt_ (Kd.int .u8) 5 (N := 32) (([bt a2 t462] : List Int)) [.int .u8 (bt a2 t462)] ri_ ?_; intro v466 w24 ho25 hb hg_ hnew_; clear hg_ hnew_; replace ho25 := rN_ Ny465 ho25; have HO467 := M_ (Kd.R_lower ho25 (pS_ (w := w) (g := g) HK)); replace HI0 := M_ (IsS55.below (iU_ HI0) hb); replace HK := M_ (pB_ HK hb); replace HB := M_ (bS_ HB hb); clear hb ho25; have hcv26 := own_string (P := Tryz.prog) Tryz.underlying22 Tryz.underlying5 Tryz.underlying9 (Kd.own_of_R HO467.out)) | (go_at_call 40; (with_reducible refine (spec_l1Cur_pick.calls g s0_0 t463 t464 3 t468 t469 t470 w0 _ ?side1 ?side2 A14.out).mono ?_); (case side1 => exact iU_ HI0); (case side2 => exact bU_ HB); rintro e w27 ⟨rfl, hi, hb, hk⟩; replace HO467 := M_ (ik_ HI0 HO467 hk); replace HK := M_ (pT_ HK hk); replace HB := M_ (hb); replace HI0 := M_ (hi); clear hb hk hi)); try go_wp2_with (first | (go_at_call 40; (with_reducible refine (spec_l1Cur_pick.calls g s0_0 x1001_1 x1002_1 (x1_1.size : Int) t459 t460 t461 w0 _ ?side1 ?side2 A9.out).mono ?_); (case side1 => exact iU_ HI0); (case side2 => exact bU_ HB); rintro e w22 ⟨rfl, hi, hb, hk⟩; replace HK := M_ (pT_ HK hk); replace HB := M_ (hb); replace HI0 := M_ (hi); clear hb hk hi) | (go_at_call 40; (with_reducible refine (spec_l1Cur_pick.calls g s0_0 t460 t461 (a2.size : Int) t462 t463 t464 w0 _ ?side1 ?side2 A10.out).mono ?_); (case side1 => exact iU_ HI0); (case side2 => exact bU_ HB); rintro e w23 ⟨rfl, hi, hb, hk⟩; replace HK := M_ (pT_ HK hk); replace HB := M_ (hb); replace HI0 := M_ (hi); clear hb hk hi; have p13 : 0 ≤ (t462 : Int) := dT_; have q13 : t462 < (a2.size : Int) := dT_; have hx13 := bt_at a2 t462; replace p13 := eq_true p13; replace q13 := eq_true q13) | ((with_reducible refine gate_dst (N := 32) rfl ?_); (try (refine gate_guard (by rfl) ?_; dsimp only)); refine lt_ (Kd.int .u8) 5 (N := 32) (([bt a2 t462] : List Int)) [.int .u8 (bt a2 t462)] ri_ ?_; intro v466 w24 ho25 hb hg_ hnew_; clear hg_ hnew_; replace ho25 := rN_ Ny465 ho25; have HO467 := M_ (Kd.R_lower ho25 (pS_ (w := w) (g := g) HK)); replace HI0 := M_ (IsS55.below (iU_ HI0) hb); replace HK := M_ (pB_ HK hb); replace HB := M_ (bS_ HB hb); clear hb ho25; have hcv26 := own_string (P := Tryz.prog) Tryz.underlying22 Tryz.underlying5 Tryz.underlying9 (Kd.own_of_R HO467.out)) | (go_at_call 40; (with_reducible refine (spec_l1Cur_pick.calls g s0_0 t463 t464 3 t468 t469 t470 w0 _ ?side1 ?side2 A14.out).mono ?_); (case side1 => exact iU_ HI0); (case side2 => exact bU_ HB); rintro e w27 ⟨rfl, hi, hb, hk⟩; replace HO467 := M_ (ik_ HI0 HO467 hk); replace HK := M_ (pT_ HK hk); replace HB := M_ (hb); replace HI0 := M_ (hi); clear hb hk hi)))
             go_roundg kj5
             case measure => have := HK1.out; have := HJ5.out; omega
             case rel => exact ⟨(((x1_1.extract 0 (t459 : Int).toNat) ++ (strOfNums y465)) ++ (x1_1.extract (t459 : Int).toNat x1_1.size)), (wrap64 (x7_1 - 1)), (t469), (t470), eD_, eD_, H', ⟨by have := HK1.out; have := HJ5.out; omega⟩, ⟨iU_ HI0⟩, ⟨pU_ HK⟩, ⟨bU_ HB⟩⟩
            ·rw [if_neg c21] at H
             exact absurd H (by simp)
           ·rw [if_neg c18] at H
            exact absurd H (by simp)
          ·rw [if_neg c17] at H
           exact absurd H (by simp)
         ·rw [if_neg c16] at H
          exact absurd H (by simp)
        ·rw [if_neg c15] at H
         have c15b0 : (t468 == 0) = false := beq_eq_false_iff_ne.mpr c15
         have c15b1 : (t468 != 0) = true := bne_iff_ne.mpr c15
         by_cases c28 : t468 = 1
         ·rw [if_pos c28] at H
          have c28b0 : (t468 == 1) = true := beq_iff_eq.mpr c28
          have c28b1 : (t468 != 1) = false := bne_eq_false_iff_eq.mpr c28
          clear c28
          by_cases c29 : 0 ≤ t459
          ·rw [if_pos c29] at H
           have c29b0 := eq_true c29
           have c29b1 : decide (0 ≤ t459) = true := decide_eq_true c29
           clear c29
           by_cases c30 : t459 ≤ (x1_1.size : Int)
           ·rw [if_pos c30] at H
            have c30b0 := eq_true c30
            have c30b1 : decide (t459 ≤ (x1_1.size : Int)) = true := decide_eq_true c30
            clear c30
            by_cases c31 : (x1_1.extract 0 (t459 : Int).toNat).size + (strOfNums y465).size ≤ 9223372036854775807
            ·rw [if_pos c31] at H
             have c31b0 := eq_true c31
             have c31b1 : decide ((x1_1.extract 0 (t459 : Int).toNat).size + (strOfNums y465).size ≤ 9223372036854775807) = true := decide_eq_true c31
             try have c31b2 : (9223372036854775807 < (x1_1.extract 0 (t459 : Int).toNat).size + (strOfNums y465).size) = False := eq_false (Nat.not_lt.2 c31)
             obtain ⟨ji32, hji32⟩ : ∃ j_ : Int, (wrap64 (t459 + 1)) = j_ := ⟨_, rfl⟩
             replace H : (if 0 ≤ (ji32) then (if (ji32) ≤ (x1_1.size : Int) then (if ((x1_1.extract 0 (t459 : Int).toNat) ++ (strOfNums y465)).size + (x1_1.extract ((ji32) : Int).toNat x1_1.size).size ≤ 9223372036854775807 then (spec_l1Cur_spoilt.l0 kj5 (((x1_1.extract 0 (t459 : Int).toNat) ++ (strOfNums y465)) ++ (x1_1.extract ((ji32) : Int).toNat x1_1.size)) a2 (wrap64 (x7_1 - 1)) s0_0 t469 t470) else (none)) else (none)) else (none)) = some (r1, r2, r3) := by first | (rw [hji32] at H; exact H) | (simp only [hji32] at H ⊢; exact H)
             (try rw [hji32] at A9)
             (try rw [hji32] at A10)
             (try rw [hji32] at A14)
             have hji32w : (IntKind.i64.wrap (t459 + 1)) = ji32 := (i64_w _).trans hji32
             by_cases c33 : 0 ≤ (ji32)
             ·rw [if_pos c33] at H
              have c33b0 := eq_true c33
              have c33b1 : decide (0 ≤ (ji32)) = true := decide_eq_true c33
              clear c33
              by_cases c34 : (ji32) ≤ (x1_1.size : Int)
              ·rw [if_pos c34] at H
               have c34b0 := eq_true c34
               have c34b1 : decide ((ji32) ≤ (x1_1.size : Int)) = true := decide_eq_true c34
               clear c34
               by_cases c35 : ((x1_1.extract 0 (t459 : Int).toNat) ++ (strOfNums y465)).size + (x1_1.extract ((ji32) : Int).toNat x1_1.size).size ≤ 9223372036854775807
               ·rw [if_pos c35] at H
                have c35b0 := eq_true c35
                have c35b1 : decide (((x1_1.extract 0 (t459 : Int).toNat) ++ (strOfNums y465)).size + (x1_1.extract ((ji32) : Int).toNat x1_1.size).size ≤ 9223372036854775807) = true := decide_eq_true c35
                try have c35b2 : (9223372036854775807 < ((x1_1.extract 0 (t459 : Int).toNat) ++ (strOfNums y465)).size + (x1_1.extract ((ji32) : Int).toNat x1_1.size).size) = False := eq_false (Nat.not_lt.2 c35)
                have c35s := c35
                try simp only [ByteArray.size_append, ByteArray.size_append] at c35s
                have c35s0 := eq_true c35s;have c35s1 := decide_eq_true c35s
                try have c35s2 := eq_false (Nat.not_lt.2 c35s)
                have H' := M_ H
                clear H
                go_wp2_with (first | (go_at_call 40; (with_reducible refine (spec_l1Cur_pick.calls g s0_0 x1001_1 x1002_1 (x1_1.size : Int) t459 t460 t461 w0 _ ?side1 ?side2 A9.out).mono ?_); (case side1 => exact iU_ HI0); (case side2 => exact bU_ HB); rintro e w36 ⟨rfl, hi, hb, hk⟩; replace HK := M_ (pT_ HK hk); replace HB := M_ (hb); replace HI0 := M_ (hi); clear hb hk hi) | (go_at_call 40; (with_reducible refine (spec_l1Cur_pick.calls g s0_0 t460 t461 (a2.size : Int) t462 t463 t464 w0 _ ?side1 ?side2 A10.out).mono ?_); (case side1 => exact iU_ HI0); (case side2 => exact bU_ HB); rintro e w37 ⟨rfl, hi, hb, hk⟩; replace HK := M_ (pT_ HK hk); replace HB := M_ (hb); replace HI0 := M_ (hi); clear hb hk hi; have p13 : 0 ≤ (t462 : Int) := dT_; have q13 : t462 < (a2.size : Int) := dT_; have hx13 := bt_at a2 t462; replace p13 := eq_true p13; replace q13 := eq_true q13) | ((with_reducible refine gate_dst (N := 32) rfl ?_); (try (refine gate_guard (by rfl) ?_; dsimp only)); refine lt_ (Kd.int .u8) 5 (N := 32) (([bt a2 t462] : List Int)) [.int .u8 (bt a2 t462)] ri_ ?_; intro v466 w38 ho39 hb hg_ hnew_; clear hg_ hnew_; replace ho39 := rN_ Ny465 ho39; have HO467 := M_ (Kd.R_lower ho39 (pS_ (w := w) (g := g) HK)); replace HI0 := M_ (IsS55.below (iU_ HI0) hb); replace HK := M_ (pB_ HK hb); replace HB := M_ (bS_ HB hb); clear hb ho39; have hcv40 := own_string (P := Tryz.prog) Tryz.underlying22 Tryz.underlying5 Tryz.underlying9 (Kd.own_of_R HO467.out)) | (go_at_call 40; (with_reducible refine (spec_l1Cur_pick.calls g s0_0 t463 t464 3 t468 t469 t470 w0 _ ?side1 ?side2 A14.out).mono ?_); (case side1 => exact iU_ HI0); (case side2 => exact bU_ HB); rintro e w41 ⟨rfl, hi, hb, hk⟩; replace HO467 := M_ (ik_ HI0 HO467 hk); replace HK := M_ (pT_ HK hk); replace HB := M_ (hb); replace HI0 := M_ (hi); clear hb hk hi))
                repeat (go_quiet (first | (go_at_call 40; (with_reducible refine (spec_l1Cur_pick.calls g s0_0 x1001_1 x1002_1 (x1_1.size : Int) t459 t460 t461 w0 _ ?side1 ?side2 A9.out).mono ?_); (case side1 => exact iU_ HI0); (case side2 => exact bU_ HB); rintro e w36 ⟨rfl, hi, hb, hk⟩; replace HK := M_ (pT_ HK hk); replace HB := M_ (hb); replace HI0 := M_ (hi); clear hb hk hi) | (go_at_call 40; (with_reducible refine (spec_l1Cur_pick.calls g s0_0 t460 t461 (a2.size : Int) t462 t463 t464 w0 _ ?side1 ?side2 A10.out).mono ?_); (case side1 => exact iU_ HI0); (case side2 => exact bU_ HB); rintro e w37 ⟨rfl, hi, hb, hk⟩; replace HK := M_ (pT_ HK hk); replace HB := M_ (hb); replace HI0 := M_ (hi); clear hb hk hi; have p13 : 0 ≤ (t462 : Int) := dT_; have q13 : t462 < (a2.size : Int) := dT_; have hx13 := bt_at a2 t462; replace p13 := eq_true p13; replace q13 := eq_true q13) | ((with_reducible refine gate_dst (N := 32) rfl ?_); (try (refine gate_guard (by rfl) ?_; dsimp only)); refine lt_ (Kd.int .u8) 5 (N := 32) (([bt a2 t462] : List Int)) [.int .u8 (bt a2 t462)] ri_ ?_; intro v466 w38 ho39 hb hg_ hnew_; clear hg_ hnew_; replace ho39 := rN_ Ny465 ho39; have HO467 := M_ (Kd.R_lower ho39 (pS_ (w := w) (g := g) HK)); replace HI0 := M_ (IsS55.below (iU_ HI0) hb); replace HK := M_ (pB_ HK hb); replace HB := M_ (bS_ HB hb); clear hb ho39; have hcv40 := own_string (P := Tryz.prog) Tryz.underlying22 Tryz.underlying5 Tryz.underlying9 (Kd.own_of_R HO467.out)) | (go_at_call 40; (with_reducible refine (spec_l1Cur_pick.calls g s0_0 t463 t464 3 t468 t469 t470 w0 _ ?side1 ?side2 A14.out).mono ?_); (case side1 => exact iU_ HI0); (case side2 => exact bU_ HB); rintro e w41 ⟨rfl, hi, hb, hk⟩; replace HO467 := M_ (ik_ HI0 HO467 hk); replace HK := M_ (pT_ HK hk); replace HB := M_ (hb); replace HI0 := M_ (hi); clear hb hk hi)); try go_wp2_with (first | (go_at_call 40; (with_reducible refine (spec_l1Cur_pick.calls g s0_0 x1001_1 x1002_1 (x1_1.size : Int) t459 t460 t461 w0 _ ?side1 ?side2 A9.out).mono ?_); (case side1 => exact iU_ HI0); (case side2 => exact bU_ HB); rintro e w36 ⟨rfl, hi, hb, hk⟩; replace HK := M_ (pT_ HK hk); replace HB := M_ (hb); replace HI0 := M_ (hi); clear hb hk hi) | (go_at_call 40; (with_reducible refine (spec_l1Cur_pick.calls g s0_0 t460 t461 (a2.size : Int) t462 t463 t464 w0 _ ?side1 ?side2 A10.out).mono ?_); (case side1 => exact iU_ HI0); (case side2 => exact bU_ HB); rintro e w37 ⟨rfl, hi, hb, hk⟩; replace HK := M_ (pT_ HK hk); replace HB := M_ (hb); replace HI0 := M_ (hi); clear hb hk hi; have p13 : 0 ≤ (t462 : Int) := dT_; have q13 : t462 < (a2.size : Int) := dT_; have hx13 := bt_at a2 t462; replace p13 := eq_true p13; replace q13 := eq_true q13) | ((with_reducible refine gate_dst (N := 32) rfl ?_); (try (refine gate_guard (by rfl) ?_; dsimp only)); refine lt_ (Kd.int .u8) 5 (N := 32) (([bt a2 t462] : List Int)) [.int .u8 (bt a2 t462)] ri_ ?_; intro v466 w38 ho39 hb hg_ hnew_; clear hg_ hnew_; replace ho39 := rN_ Ny465 ho39; have HO467 := M_ (Kd.R_lower ho39 (pS_ (w := w) (g := g) HK)); replace HI0 := M_ (IsS55.below (iU_ HI0) hb); replace HK := M_ (pB_ HK hb); replace HB := M_ (bS_ HB hb); clear hb ho39; have hcv40 := own_string (P := Tryz.prog) Tryz.underlying22 Tryz.underlying5 Tryz.underlying9 (Kd.own_of_R HO467.out)) | (go_at_call 40; (with_reducible refine (spec_l1Cur_pick.calls g s0_0 t463 t464 3 t468 t469 t470 w0 _ ?side1 ?side2 A14.out).mono ?_); (case side1 => exact iU_ HI0); (case side2 => exact bU_ HB); rintro e w41 ⟨rfl, hi, hb, hk⟩; replace HO467 := M_ (ik_ HI0 HO467 hk); replace HK := M_ (pT_ HK hk); replace HB := M_ (hb); replace HI0 := M_ (hi); clear hb hk hi)))
                go_roundg kj5
                case measure => have := HK1.out; have := HJ5.out; omega
                case rel => exact ⟨(((x1_1.extract 0 (t459 : Int).toNat) ++ (strOfNums y465)) ++ (x1_1.extract ((ji32) : Int).toNat x1_1.size)), (wrap64 (x7_1 - 1)), (t469), (t470), (by first | rfl | (simp; done) | (simp only [← hji32] <;> (first | rfl | simp)) | (simp [*]; done)), eD_, H', ⟨by have := HK1.out; have := HJ5.out; omega⟩, ⟨iU_ HI0⟩, ⟨pU_ HK⟩, ⟨bU_ HB⟩⟩
               ·rw [if_neg c35] at H
                exact absurd H (by simp)
              ·rw [if_neg c34] at H
               exact absurd H (by simp)
             ·rw [if_neg c33] at H
              exact absurd H (by simp)
            ·rw [if_neg c31] at H
             exact absurd H (by simp)
           ·rw [if_neg c30] at H
            exact absurd H (by simp)
          ·rw [if_neg c29] at H
           exact absurd H (by simp)
         ·rw [if_neg c28] at H
          have c28b0 : (t468 == 1) = false := beq_eq_false_iff_ne.mpr c28
          have c28b1 : (t468 != 1) = true := bne_iff_ne.mpr c28
          by_cases c42 : 0 ≤ t459
          ·rw [if_pos c42] at H
           have c42b0 := eq_true c42
           have c42b1 : decide (0 ≤ t459) = true := decide_eq_true c42
           clear c42
           by_cases c43 : t459 ≤ (x1_1.size : Int)
           ·rw [if_pos c43] at H
            have c43b0 := eq_true c43
            have c43b1 : decide (t459 ≤ (x1_1.size : Int)) = true := decide_eq_true c43
            clear c43;obtain ⟨ji44, hji44⟩ : ∃ j_ : Int, (wrap64 (t459 + 1)) = j_ := ⟨_, rfl⟩
            replace H : (if 0 ≤ (ji44) then (if (ji44) ≤ (x1_1.size : Int) then (if (x1_1.extract 0 (t459 : Int).toNat).size + (x1_1.extract ((ji44) : Int).toNat x1_1.size).size ≤ 9223372036854775807 then (spec_l1Cur_spoilt.l0 kj5 ((x1_1.extract 0 (t459 : Int).toNat) ++ (x1_1.extract ((ji44) : Int).toNat x1_1.size)) a2 (wrap64 (x7_1 - 1)) s0_0 t469 t470) else (none)) else (none)) else (none)) = some (r1, r2, r3) := by first | (rw [hji44] at H; exact H) | (simp only [hji44] at H ⊢; exact H)
            (try rw [hji44] at A9)
            (try rw [hji44] at A10)
            (try rw [hji44] at A14)
            have hji44w : (IntKind.i64.wrap (t459 + 1)) = ji44 := (i64_w _).trans hji44
            by_cases c45 : 0 ≤ (ji44)
            ·rw [if_pos c45] at H
             have c45b0 := eq_true c45
             have c45b1 : decide (0 ≤ (ji44)) = true := decide_eq_true c45
             clear c45
             by_cases c46 : (ji44) ≤ (x1_1.size : Int)
             ·rw [if_pos c46] at H
              have c46b0 := eq_true c46
              have c46b1 : decide ((ji44) ≤ (x1_1.size : Int)) = true := decide_eq_true c46
              clear c46
              by_cases c47 : (x1_1.extract 0 (t459 : Int).toNat).size + (x1_1.extract ((ji44) : Int).toNat x1_1.size).size ≤ 9223372036854775807
              ·rw [if_pos c47] at H
               have c47b0 := eq_true c47
               have c47b1 : decide ((x1_1.extract 0 (t459 : Int).toNat).size + (x1_1.extract ((ji44) : Int).toNat x1_1.size).size ≤ 9223372036854775807) = true := decide_eq_true c47
               try have c47b2 : (9223372036854775807 < (x1_1.extract 0 (t459 : Int).toNat).size + (x1_1.extract ((ji44) : Int).toNat x1_1.size).size) = False := eq_false (Nat.not_lt.2 c47)
               have H' := M_ H
               clear H
               go_wp2_with (first | (go_at_call 40; (with_reducible refine (spec_l1Cur_pick.calls g s0_0 x1001_1 x1002_1 (x1_1.size : Int) t459 t460 t461 w0 _ ?side1 ?side2 A9.out).mono ?_); (case side1 => exact iU_ HI0); (case side2 => exact bU_ HB); rintro e w48 ⟨rfl, hi, hb, hk⟩; replace HK := M_ (pT_ HK hk); replace HB := M_ (hb); replace HI0 := M_ (hi); clear hb hk hi) | (go_at_call 40; (with_reducible refine (spec_l1Cur_pick.calls g s0_0 t460 t461 (a2.size : Int) t462 t463 t464 w0 _ ?side1 ?side2 A10.out).mono ?_); (case side1 => exact iU_ HI0); (case side2 => exact bU_ HB); rintro e w49 ⟨rfl, hi, hb, hk⟩; replace HK := M_ (pT_ HK hk); replace HB := M_ (hb); replace HI0 := M_ (hi); clear hb hk hi; have p13 : 0 ≤ (t462 : Int) := dT_; have q13 : t462 < (a2.size : Int) := dT_; have hx13 := bt_at a2 t462; replace p13 := eq_true p13; replace q13 := eq_true q13) | ((with_reducible refine gate_dst (N := 32) rfl ?_); (try (refine gate_guard (by rfl) ?_; dsimp only)); refine lt_ (Kd.int .u8) 5 (N := 32) (([bt a2 t462] : List Int)) [.int .u8 (bt a2 t462)] ri_ ?_; intro v466 w50 ho51 hb hg_ hnew_; clear hg_ hnew_; replace ho51 := rN_ Ny465 ho51; have HO467 := M_ (Kd.R_lower ho51 (pS_ (w := w) (g := g) HK)); replace HI0 := M_ (IsS55.below (iU_ HI0) hb); replace HK := M_ (pB_ HK hb); replace HB := M_ (bS_ HB hb); clear hb ho51; have hcv52 := own_string (P := Tryz.prog) Tryz.underlying22 Tryz.underlying5 Tryz.underlying9 (Kd.own_of_R HO467.out)) | (go_at_call 40; (with_reducible refine (spec_l1Cur_pick.calls g s0_0 t463 t464 3 t468 t469 t470 w0 _ ?side1 ?side2 A14.out).mono ?_); (case side1 => exact iU_ HI0); (case side2 => exact bU_ HB); rintro e w53 ⟨rfl, hi, hb, hk⟩; replace HO467 := M_ (ik_ HI0 HO467 hk); replace HK := M_ (pT_ HK hk); replace HB := M_ (hb); replace HI0 := M_ (hi); clear hb hk hi))
               repeat (go_quiet (first | (go_at_call 40; (with_reducible refine (spec_l1Cur_pick.calls g s0_0 x1001_1 x1002_1 (x1_1.size : Int) t459 t460 t461 w0 _ ?side1 ?side2 A9.out).mono ?_); (case side1 => exact iU_ HI0); (case side2 => exact bU_ HB); rintro e w48 ⟨rfl, hi, hb, hk⟩; replace HK := M_ (pT_ HK hk); replace HB := M_ (hb); replace HI0 := M_ (hi); clear hb hk hi) | (go_at_call 40; (with_reducible refine (spec_l1Cur_pick.calls g s0_0 t460 t461 (a2.size : Int) t462 t463 t464 w0 _ ?side1 ?side2 A10.out).mono ?_); (case side1 => exact iU_ HI0); (case side2 => exact bU_ HB); rintro e w49 ⟨rfl, hi, hb, hk⟩; replace HK := M_ (pT_ HK hk); replace HB := M_ (hb); replace HI0 := M_ (hi); clear hb hk hi; have p13 : 0 ≤ (t462 : Int) := dT_; have q13 : t462 < (a2.size : Int) := dT_; have hx13 := bt_at a2 t462; replace p13 := eq_true p13; replace q13 := eq_true q13) | ((with_reducible refine gate_dst (N := 32) rfl ?_); (try (refine gate_guard (by rfl) ?_; dsimp only)); refine lt_ (Kd.int .u8) 5 (N := 32) (([bt a2 t462] : List Int)) [.int .u8 (bt a2 t462)] ri_ ?_; intro v466 w50 ho51 hb hg_ hnew_; clear hg_ hnew_; replace ho51 := rN_ Ny465 ho51; have HO467 := M_ (Kd.R_lower ho51 (pS_ (w := w) (g := g) HK)); replace HI0 := M_ (IsS55.below (iU_ HI0) hb); replace HK := M_ (pB_ HK hb); replace HB := M_ (bS_ HB hb); clear hb ho51; have hcv52 := own_string (P := Tryz.prog) Tryz.underlying22 Tryz.underlying5 Tryz.underlying9 (Kd.own_of_R HO467.out)) | (go_at_call 40; (with_reducible refine (spec_l1Cur_pick.calls g s0_0 t463 t464 3 t468 t469 t470 w0 _ ?side1 ?side2 A14.out).mono ?_); (case side1 => exact iU_ HI0); (case side2 => exact bU_ HB); rintro e w53 ⟨rfl, hi, hb, hk⟩; replace HO467 := M_ (ik_ HI0 HO467 hk); replace HK := M_ (pT_ HK hk); replace HB := M_ (hb); replace HI0 := M_ (hi); clear hb hk hi)); try go_wp2_with (first | (go_at_call 40; (with_reducible refine (spec_l1Cur_pick.calls g s0_0 x1001_1 x1002_1 (x1_1.size : Int) t459 t460 t461 w0 _ ?side1 ?side2 A9.out).mono ?_); (case side1 => exact iU_ HI0); (case side2 => exact bU_ HB); rintro e w48 ⟨rfl, hi, hb, hk⟩; replace HK := M_ (pT_ HK hk); replace HB := M_ (hb); replace HI0 := M_ (hi); clear hb hk hi) | (go_at_call 40; (with_reducible refine (spec_l1Cur_pick.calls g s0_0 t460 t461 (a2.size : Int) t462 t463 t464 w0 _ ?side1 ?side2 A10.out).mono ?_); (case side1 => exact iU_ HI0); (case side2 => exact bU_ HB); rintro e w49 ⟨rfl, hi, hb, hk⟩; replace HK := M_ (pT_ HK hk); replace HB := M_ (hb); replace HI0 := M_ (hi); clear hb hk hi; have p13 : 0 ≤ (t462 : Int) := dT_; have q13 : t462 < (a2.size : Int) := dT_; have hx13 := bt_at a2 t462; replace p13 := eq_true p13; replace q13 := eq_true q13) | ((with_reducible refine gate_dst (N := 32) rfl ?_); (try (refine gate_guard (by rfl) ?_; dsimp only)); refine lt_ (Kd.int .u8) 5 (N := 32) (([bt a2 t462] : List Int)) [.int .u8 (bt a2 t462)] ri_ ?_; intro v466 w50 ho51 hb hg_ hnew_; clear hg_ hnew_; replace ho51 := rN_ Ny465 ho51; have HO467 := M_ (Kd.R_lower ho51 (pS_ (w := w) (g := g) HK)); replace HI0 := M_ (IsS55.below (iU_ HI0) hb); replace HK := M_ (pB_ HK hb); replace HB := M_ (bS_ HB hb); clear hb ho51; have hcv52 := own_string (P := Tryz.prog) Tryz.underlying22 Tryz.underlying5 Tryz.underlying9 (Kd.own_of_R HO467.out)) | (go_at_call 40; (with_reducible refine (spec_l1Cur_pick.calls g s0_0 t463 t464 3 t468 t469 t470 w0 _ ?side1 ?side2 A14.out).mono ?_); (case side1 => exact iU_ HI0); (case side2 => exact bU_ HB); rintro e w53 ⟨rfl, hi, hb, hk⟩; replace HO467 := M_ (ik_ HI0 HO467 hk); replace HK := M_ (pT_ HK hk); replace HB := M_ (hb); replace HI0 := M_ (hi); clear hb hk hi)))
               go_roundg kj5
               case measure => have := HK1.out; have := HJ5.out; omega
               case rel => exact ⟨((x1_1.extract 0 (t459 : Int).toNat) ++ (x1_1.extract ((ji44) : Int).toNat x1_1.size)), (wrap64 (x7_1 - 1)), (t469), (t470), (by first | rfl | (simp; done) | (simp only [← hji44] <;> (first | rfl | simp)) | (simp [*]; done)), eD_, H', ⟨by have := HK1.out; have := HJ5.out; omega⟩, ⟨iU_ HI0⟩, ⟨pU_ HK⟩, ⟨bU_ HB⟩⟩
              ·rw [if_neg c47] at H
               exact absurd H (by simp)
             ·rw [if_neg c46] at H
              exact absurd H (by simp)
            ·rw [if_neg c45] at H
             exact absurd H (by simp)
           ·rw [if_neg c43] at H
            exact absurd H (by simp)
          ·rw [if_neg c42] at H
           exact absurd H (by simp)
       ·rw [if_neg c12] at H
        exact absurd H (by simp)
      ·rw [if_neg c11] at H
       exact absurd H (by simp)
     ·replace c8 := Bool.eq_false_iff.mpr c8
      subst c8
      rw [if_neg (show ¬ (false = true) by decide)] at H
      simp only [Option.some.injEq, Prod.mk.injEq] at H;obtain ⟨rfl, rfl, rfl⟩ := H
      go_wp2
      repeat (go_quiet (fail); try go_wp2)
      go_ret
      exact ⟨eR_, by (try simp only [show IntKind.u64.wrap 0 = 0 from rfl, Int.add_zero]); exact iU_ HI0, bU_ HB, pU_ HK⟩

def spec_l1Cur_of.f (s0_0 : List Int) (s0_1 : Int) (s0_2 : Int) (l1 : List ByteArray) : Option (ByteArray × Int × Int) := (spec_l1Cur_pick.f s0_0 s0_1 s0_2 (l1.length : Int)).bind fun bt471 => (if 0 ≤ bt471.1 then (if bt471.1 < (l1.length : Int) then (some (rdOf ByteArray.empty l1 bt471.1, bt471.2.1, bt471.2.2)) else (none)) else (none))
set_option maxHeartbeats 8000000 in
set_option maxRecDepth 100000 in
theorem spec_l1Cur_of.calls (g : Nat) (s0_0 : List Int) (s0_1 : Int) (s0_2 : Int) (A1 : Option Addr) (c1 : Nat) (l1 : List ByteArray) (r1 : ByteArray) (r2 : Int) (r3 : Int) (w0 w : World) (hI : IsS55 w0 w g s0_0 s0_1 s0_2) (hB : Below w0.heap.size w0 w) (hr1 : Kd.C Kd.string w A1 l1.length l1) (hc1 : l1.length ≤ c1) (hf1 : ∀ ad, A1 = some ad → 0 < l1.length → ad.block ≠ g) (h : spec_l1Cur_of.f s0_0 s0_1 s0_2 l1 = some (r1, r2, r3)) :
  Calls Tryz.prog 45 #[.pointer (some ⟨g, 0, none⟩), .slice A1 l1.length c1] w fun e w' => e = .returned (.string r1) ∧ IsS55 w0 w' g s0_0 r2 r3 ∧ Below w0.heap.size w0 w' ∧ KeepBut w w' g none := by
 have HR1 := M_ hr1;have HC1 := M_ hc1;clear hr1 hc1;have HI0 := M_ hI;have GEHI0_ := M_ (IsS55.ge HI0.out);have HK := M_ (KeepBut.refl w g none);have HL := M_ hB.size;clear hI;have HW0 := M_ hB.size;have HB := M_ hB;clear hB
 have H : ((spec_l1Cur_pick.f s0_0 s0_1 s0_2 (l1.length : Int)).bind fun bt471 => (if 0 ≤ bt471.1 then (if bt471.1 < (l1.length : Int) then (some (rdOf ByteArray.empty l1 bt471.1, bt471.2.1, bt471.2.2)) else (none)) else (none))) = some (r1, r2, r3) := h
 clear h;replace H := Option.bind_eq_some_iff.mp H;obtain ⟨⟨t471, t472, t473⟩, A30, H⟩ := H;(try dsimp only at H);have A3 := M_ A30;clear A30
 by_cases c4 : 0 ≤ t471
 ·rw [if_pos c4] at H
  have c4b0 : decide (0 ≤ t471) = true := decide_eq_true c4
  clear c4
  by_cases c5 : t471 < (l1.length : Int)
  ·rw [if_pos c5] at H
   have c5b0 : decide (t471 < (l1.length : Int)) = true := decide_eq_true c5
   clear c5;simp only [Option.some.injEq, Prod.mk.injEq] at H;obtain ⟨rfl, rfl, rfl⟩ := H
   go_enter Tryz.func45, Tryz.ntmps45
   go_wp2_with (first | ((with_reducible refine gc_ 40 ?_); refine gM_ (some 9) Tryz.func40 #[.pointer (some ⟨g, 0, none⟩), .int .i64 (l1.length : Int)] ?_; (with_reducible refine (spec_l1Cur_pick.calls g s0_0 s0_1 s0_2 (l1.length : Int) t471 t472 t473 w0 _ ?side1 ?side2 A3.out).mono ?_); (case side1 => exact iU_ HI0); (case side2 => exact bU_ HB); rintro e w6 ⟨rfl, hi, hb, hk⟩; refine ⟨_, rfl, ?_⟩; replace HK := M_ (pT_ HK hk); replace HB := M_ (hb); replace HI0 := M_ (hi); clear hb hk hi; have p474 : 0 ≤ (t471 : Int) := dT_; have q474 : t471 < (l1.length : Int) := dT_; obtain ⟨ad474, e474, hx474_0⟩ := Kd.at_string HR1.out t471 p474 q474; cases e474; replace hx474_0 := keep_cell HK.out hx474_0 (by first | (rw [add_block]; exact hf1 _ rfl (by omega)) | exact hf1 _ rfl (by omega) | exact hf1 ad474 rfl (by omega)); replace p474 := eq_true p474; replace q474 := eq_true q474))
   go_ret
   exact ⟨eR_, by (try simp only [show IntKind.u64.wrap 0 = 0 from rfl, Int.add_zero]); exact iU_ HI0, bU_ HB, pU_ HK⟩
  ·rw [if_neg c5] at H
   exact absurd H (by simp)
 ·rw [if_neg c4] at H
  exact absurd H (by simp)

def spec_DrawParseInstrument.j0 : Nat → ByteArray → Int → Bool → List Int → Int → Int → Option (ByteArray)
 | 0, _, _, _, _, _, _ => none
 | k + 1, x4, x12, x13, x479000, x479001, x479002 => if x13 = true then ((spec_l1Cur_spoilt.f k x479000 x479001 x479002 x4 (⟨#[99, 35, 53, 49, 32, 10]⟩ : ByteArray)).bind fun bt489 => (some bt489.1)) else (if x12 = 2 then ((spec_l1Cur_of.f x479000 x479001 x479002 (([(⟨#[]⟩ : ByteArray), (⟨#[10]⟩ : ByteArray), (⟨#[49, 10]⟩ : ByteArray), (⟨#[99, 53, 10]⟩ : ByteArray), (⟨#[99, 53, 32, 48, 10]⟩ : ByteArray), (⟨#[99, 53, 32, 50, 49, 10]⟩ : ByteArray), (⟨#[99, 53, 32, 99, 53, 32, 49, 10]⟩ : ByteArray), (⟨#[100, 53, 32, 99, 53, 32, 49, 10]⟩ : ByteArray), (⟨#[99, 53, 32, 49]⟩ : ByteArray), (⟨#[99, 53, 32, 32, 49, 10]⟩ : ByteArray), (⟨#[99, 53, 32, 49, 10, 10]⟩ : ByteArray)] : List ByteArray))).bind fun bt495 => (some bt495.1)) else (some x4))
def spec_DrawParseInstrument.f (k : Nat) (l0 : List Int) : Option (ByteArray) := (newCur.f l0).bind fun bt475 => ((spec_l1Cur_instrument.f k bt475.1 bt475.2.1 bt475.2.2).bind fun bt479 => ((spec_inText.f k bt479.1 bt479.2.1).bind fun t485 => ((spec_l1Cur_pick.f bt475.1 bt479.2.2.1 bt479.2.2.2 6).bind fun bt486 => (if bt486.1 = 0 then (spec_DrawParseInstrument.j0 k t485 bt486.1 (bt486.1 == 0) bt475.1 bt486.2.1 bt486.2.2) else (spec_DrawParseInstrument.j0 k t485 bt486.1 (bt486.1 == 1) bt475.1 bt486.2.1 bt486.2.2)))))
theorem spec_DrawParseInstrument.mono_l : ∀ k, (∀ y0 y1 y2 y3 y4 y5, LeO (spec_DrawParseInstrument.j0 k y0 y1 y2 y3 y4 y5) (spec_DrawParseInstrument.j0 (k + 1) y0 y1 y2 y3 y4 y5))
 | 0 => fun _ _ _ _ _ _ r h => by simp [spec_DrawParseInstrument.j0] at h
 | k + 1 => by
  have ih0 := spec_DrawParseInstrument.mono_l k
  ·intro y0 y1 y2 y3 y4 y5
   unfold spec_DrawParseInstrument.j0
   have m0_ := @spec_inText.mono;have m1_ := @spec_l1Cur_instrument.mono;have m2_ := @spec_l1Cur_spoilt.mono;exact mo_
theorem spec_DrawParseInstrument.mono : ∀ a0 k, LeO (spec_DrawParseInstrument.f k a0) (spec_DrawParseInstrument.f (k + 1) a0) := by
 intro a0 k;have ih0 := spec_DrawParseInstrument.mono_l k
 unfold spec_DrawParseInstrument.f
 have m0_ := @spec_inText.mono;have m1_ := @spec_l1Cur_instrument.mono;have m2_ := @spec_l1Cur_spoilt.mono;exact mo_
set_option maxHeartbeats 8000000 in
set_option maxRecDepth 100000 in
theorem spec_DrawParseInstrument.calls (k : Nat) (A0 : Option Addr) (c0 : Nat) (l0 : List Int) (r : ByteArray) (w : World) (hr0 : Kd.C (Kd.int .u8) w A0 l0.length l0) (hc0 : l0.length ≤ c0) (h : spec_DrawParseInstrument.f k l0 = some r) :
  Calls Tryz.prog 18 #[.slice A0 l0.length c0] w fun e w' => e = .returned (.string r) ∧ Below w.heap.size w w' := by
 have HR0 := M_ hr0;have HC0 := M_ hc0;clear hr0 hc0;have HB := M_ (Below.refl w.heap.size w)
 have H : ((newCur.f l0).bind fun bt475 => ((spec_l1Cur_instrument.f k bt475.1 bt475.2.1 bt475.2.2).bind fun bt479 => ((spec_inText.f k bt479.1 bt479.2.1).bind fun t485 => ((spec_l1Cur_pick.f bt475.1 bt479.2.2.1 bt479.2.2.2 6).bind fun bt486 => (if bt486.1 = 0 then (spec_DrawParseInstrument.j0 k t485 bt486.1 (bt486.1 == 0) bt475.1 bt486.2.1 bt486.2.2) else (spec_DrawParseInstrument.j0 k t485 bt486.1 (bt486.1 == 1) bt475.1 bt486.2.1 bt486.2.2)))))) = some r := h
 clear h;replace H := Option.bind_eq_some_iff.mp H;obtain ⟨⟨t475, t476, t477⟩, A20, H⟩ := H;(try dsimp only at H);have A2 := M_ A20;clear A20;replace H := Option.bind_eq_some_iff.mp H;obtain ⟨⟨t479, t482, t483, t484⟩, A30, H⟩ := H;(try dsimp only at H);have A3 := M_ A30;clear A30;replace H := Option.bind_eq_some_iff.mp H;obtain ⟨t485, A40, H⟩ := H;(try dsimp only at H);have A4 := M_ A40;clear A40;replace H := Option.bind_eq_some_iff.mp H;obtain ⟨⟨t486, t487, t488⟩, A50, H⟩ := H;(try dsimp only at H);have A5 := M_ A50;clear A50;have HC6 := M_ H;clear H
 go_enter Tryz.func18, Tryz.ntmps18
 go_upto_if 13 with (first | ((with_reducible refine gate_dst (N := 7) rfl ?_); refine bx_ (N := 7) (cs := #[.slice A0 l0.length c0, .int .i64 0, .int .u64 0]) (t := 55) ?_; intro g478 hg w7 hbox hb2; have hb := bS_ HB hb2; have hi := newCur_is A2.out (by exact HR0.out) hbox (by rw [hg]; exact (bZ_ HB)); clear hg hbox; replace HB := M_ (hb); have HI478 := M_ (hi); (try clear hb); (try clear hb2); (try clear hk); (try clear hi)) | ((with_reducible refine gc_ 43 ?_); refine gM_ (some 9) Tryz.func43 #[.pointer (some ⟨g478, 0, none⟩)] ?_; (with_reducible refine (spec_l1Cur_instrument.calls k g478 t475 t476 t477 t479 t482 t483 t484 w _ ?side1 ?side2 A3.out).mono ?_); (case side1 => exact iU_ HI478); (case side2 => exact bU_ HB); rintro e w8 ⟨v480, rfl, ho0, hi, hb, hk⟩; refine ⟨_, rfl, ?_⟩; have HO481 := M_ (Kd.R_lower ho0 (bZ_ HB)); replace HB := M_ (hb); replace HI478 := M_ (hi); clear hb hk hi ho0; obtain ⟨Ao9, co9, eo9⟩ := Kd.R_slice HO481.out; subst eo9) | ((with_reducible refine gc_ 28 ?_); refine gM_ (some 10) Tryz.func28 #[.agg #[.slice Ao9 t479.length co9, .int .i64 t482]] ?_; (with_reducible refine (spec_inText.calls k _ _ t479 t482 t485 _ ?side1 ?side2 A4.out).mono ?_); (case side1 => exact cU_ (Kd.R_reads' HO481.out).2.2); (case side2 => exact (Kd.R_reads' HO481.out).2.1); rintro e w10 ⟨rfl, hb⟩; refine ⟨_, rfl, ?_⟩; replace HO481 := M_ (rB_ HO481 hb); replace HI478 := M_ (IsS55.below (iU_ HI478) hb); replace HB := M_ (bS_ HB hb); clear hb) | ((with_reducible refine gc_ 40 ?_); refine gM_ (some 12) Tryz.func40 #[.pointer (some ⟨g478, 0, none⟩), .int .i64 6] ?_; (with_reducible refine (spec_l1Cur_pick.calls g478 t475 t483 t484 6 t486 t487 t488 w _ ?side1 ?side2 A5.out).mono ?_); (case side1 => exact iU_ HI478); (case side2 => exact bU_ HB); rintro e w11 ⟨rfl, hi, hb, hk⟩; refine ⟨_, rfl, ?_⟩; replace HO481 := M_ (ik_ HI478 HO481 hk); replace HB := M_ (hb); replace HI478 := M_ (hi); clear hb hk hi))
 (try simp only [Act.put, la_, lb_, lc_])
 go_cut [13] (fun v13 wc => ∃ (kq : Nat) (x13_5 : Bool), v13 = .bool x13_5 ∧ Aside0 (spec_DrawParseInstrument.j0 kq t485 t486 x13_5 t475 t487 t488 = some r) ∧ Aside0 (kq ≤ k) ∧ Aside0 (IsS55 w wc g478 t475 t487 t488) ∧ Aside0 (Below w.heap.size w wc))
 case first =>
  have H := HC6.out;clear HC6
  by_cases c12 : t486 = 0
  ·rw [if_pos c12] at H
   have c12b0 : (t486 == 0) = true := beq_iff_eq.mpr c12
   have c12b1 : (t486 != 0) = false := bne_eq_false_iff_eq.mpr c12
   clear c12
   (first | rw [c12b0] | (simp only [i64_w, i32_w]; rw [c12b0]) | skip)
   have H' := M_ H
   clear H
   go_wp2
   go_meet
   case rel => exact ⟨_, ((t486 == 0)), eD_, H', ⟨by first | omega | exact Nat.le_refl _⟩, ⟨iU_ HI478⟩, ⟨bU_ HB⟩⟩
  ·rw [if_neg c12] at H
   have c12b0 : (t486 == 0) = false := beq_eq_false_iff_ne.mpr c12
   have c12b1 : (t486 != 0) = true := bne_iff_ne.mpr c12
   (first | rw [c12b0] | (simp only [i64_w, i32_w]; rw [c12b0]) | skip)
   have H' := M_ H
   clear H
   go_wp2
   go_meet
   case rel => exact ⟨_, ((t486 == 1)), eD_, H', ⟨by first | omega | exact Nat.le_refl _⟩, ⟨iU_ HI478⟩, ⟨bU_ HB⟩⟩
 case rest =>
  clear HC6;obtain ⟨kq, x13_5, rfl, HA, HJ5, HI478, HB⟩ := hcut
  cases kq with
  | zero => exact absurd HA.out (by simp [spec_DrawParseInstrument.j0])
  | succ kj5 =>
   have H := HA.out;clear HA;simp only [spec_DrawParseInstrument.j0] at H
   by_cases c13 : x13_5 = true
   ·subst c13
    rw [if_pos rfl] at H
    replace H := Option.bind_eq_some_iff.mp H;obtain ⟨⟨t489, t490, t491⟩, A140, H⟩ := H;replace H : (some t489) = some r := H;have A14 := M_ A140;clear A140;obtain rfl := Option.some.inj H
    go_wp2_with (first | ((with_reducible refine gc_ 44 ?_); refine gM_ (some 18) Tryz.func44 #[.pointer (some ⟨g478, 0, none⟩), .string t485, .string (⟨#[99, 35, 53, 49, 32, 10]⟩ : ByteArray)] ?_; (with_reducible refine (spec_l1Cur_spoilt.calls kj5 g478 t475 t487 t488 t485 (⟨#[99, 35, 53, 49, 32, 10]⟩ : ByteArray) t489 t490 t491 w _ ?side1 ?side2 A14.out).mono ?_); (case side1 => exact iU_ HI478); (case side2 => exact bU_ HB); rintro e w15 ⟨rfl, hi, hb, hk⟩; refine ⟨_, rfl, ?_⟩; replace HB := M_ (hb); replace HI478 := M_ (hi); clear hb hk hi))
    go_ret
    exact ⟨eR_, bU_ HB⟩
   ·replace c13 := Bool.eq_false_iff.mpr c13
    subst c13
    rw [if_neg (show ¬ (false = true) by decide)] at H
    by_cases c16 : t486 = 2
    ·rw [if_pos c16] at H
     have c16b0 : (t486 == 2) = true := beq_iff_eq.mpr c16
     have c16b1 : (t486 != 2) = false := bne_eq_false_iff_eq.mpr c16
     clear c16;obtain ⟨y492, hy492⟩ : ∃ y_ : List ByteArray, y_ = (([(⟨#[]⟩ : ByteArray), (⟨#[10]⟩ : ByteArray), (⟨#[49, 10]⟩ : ByteArray), (⟨#[99, 53, 10]⟩ : ByteArray), (⟨#[99, 53, 32, 48, 10]⟩ : ByteArray), (⟨#[99, 53, 32, 50, 49, 10]⟩ : ByteArray), (⟨#[99, 53, 32, 99, 53, 32, 49, 10]⟩ : ByteArray), (⟨#[100, 53, 32, 99, 53, 32, 49, 10]⟩ : ByteArray), (⟨#[99, 53, 32, 49]⟩ : ByteArray), (⟨#[99, 53, 32, 32, 49, 10]⟩ : ByteArray), (⟨#[99, 53, 32, 49, 10, 10]⟩ : ByteArray)] : List ByteArray)) := ⟨_, rfl⟩
     replace H : ((spec_l1Cur_of.f t475 t487 t488 y492).bind fun bt495 => (some bt495.1)) = some r := by first | (rw [hy492]; with_reducible exact H) | (have H2_ := (Option.bind_some _ _).symm.trans H; rw [hy492]; with_reducible exact H2_) | (have H2_ := (Option.bind_some _ _).symm.trans H; with_reducible exact H2_) | with_reducible exact H | (rw [hy492]; exact H) | exact H
     have Ny492 := M_ hy492;clear hy492;replace H := Option.bind_eq_some_iff.mp H;obtain ⟨⟨t495, t496, t497⟩, A170, H⟩ := H;replace H : (some t495) = some r := H;have A17 := M_ A170;clear A170;obtain rfl := Option.some.inj H
     go_wp2_with (first | ((with_reducible refine gate_dst (N := 22) rfl ?_); refine Kd.R_lit Kd.string _ 9 ?hg (N := 22) ?hd (xs := ([(⟨#[]⟩ : ByteArray), (⟨#[10]⟩ : ByteArray), (⟨#[49, 10]⟩ : ByteArray), (⟨#[99, 53, 10]⟩ : ByteArray), (⟨#[99, 53, 32, 48, 10]⟩ : ByteArray), (⟨#[99, 53, 32, 50, 49, 10]⟩ : ByteArray), (⟨#[99, 53, 32, 99, 53, 32, 49, 10]⟩ : ByteArray), (⟨#[100, 53, 32, 99, 53, 32, 49, 10]⟩ : ByteArray), (⟨#[99, 53, 32, 49]⟩ : ByteArray), (⟨#[99, 53, 32, 32, 49, 10]⟩ : ByteArray), (⟨#[99, 53, 32, 49, 10, 10]⟩ : ByteArray)] : List ByteArray)) (inner := [.string (⟨#[]⟩ : ByteArray), .string (⟨#[10]⟩ : ByteArray), .string (⟨#[49, 10]⟩ : ByteArray), .string (⟨#[99, 53, 10]⟩ : ByteArray), .string (⟨#[99, 53, 32, 48, 10]⟩ : ByteArray), .string (⟨#[99, 53, 32, 50, 49, 10]⟩ : ByteArray), .string (⟨#[99, 53, 32, 99, 53, 32, 49, 10]⟩ : ByteArray), .string (⟨#[100, 53, 32, 99, 53, 32, 49, 10]⟩ : ByteArray), .string (⟨#[99, 53, 32, 49]⟩ : ByteArray), .string (⟨#[99, 53, 32, 32, 49, 10]⟩ : ByteArray), .string (⟨#[99, 53, 32, 49, 10, 10]⟩ : ByteArray)]) (ok := fun _ => True) (okp := fun _ => True) ?hr ?hp (fun _ hk => hk) trivial (Below.refl _ _) (Nat.le_refl _) (by simp) ?_; (case hd => rfl); (case hg => rfl); (case hr => first | (go_simp; done) | (go_simp; rfl)); (case hp => exact (Reps.one (show Kd.M Kd.string _ _ _ (⟨#[]⟩ : ByteArray) [.string (⟨#[]⟩ : ByteArray)] from rfl) (Reps.one (show Kd.M Kd.string _ _ _ (⟨#[10]⟩ : ByteArray) [.string (⟨#[10]⟩ : ByteArray)] from rfl) (Reps.one (show Kd.M Kd.string _ _ _ (⟨#[49, 10]⟩ : ByteArray) [.string (⟨#[49, 10]⟩ : ByteArray)] from rfl) (Reps.one (show Kd.M Kd.string _ _ _ (⟨#[99, 53, 10]⟩ : ByteArray) [.string (⟨#[99, 53, 10]⟩ : ByteArray)] from rfl) (Reps.one (show Kd.M Kd.string _ _ _ (⟨#[99, 53, 32, 48, 10]⟩ : ByteArray) [.string (⟨#[99, 53, 32, 48, 10]⟩ : ByteArray)] from rfl) (Reps.one (show Kd.M Kd.string _ _ _ (⟨#[99, 53, 32, 50, 49, 10]⟩ : ByteArray) [.string (⟨#[99, 53, 32, 50, 49, 10]⟩ : ByteArray)] from rfl) (Reps.one (show Kd.M Kd.string _ _ _ (⟨#[99, 53, 32, 99, 53, 32, 49, 10]⟩ : ByteArray) [.string (⟨#[99, 53, 32, 99, 53, 32, 49, 10]⟩ : ByteArray)] from rfl) (Reps.one (show Kd.M Kd.string _ _ _ (⟨#[100, 53, 32, 99, 53, 32, 49, 10]⟩ : ByteArray) [.string (⟨#[100, 53, 32, 99, 53, 32, 49, 10]⟩ : ByteArray)] from rfl) (Reps.one (show Kd.M Kd.string _ _ _ (⟨#[99, 53, 32, 49]⟩ : ByteArray) [.string (⟨#[99, 53, 32, 49]⟩ : ByteArray)] from rfl) (Reps.one (show Kd.M Kd.string _ _ _ (⟨#[99, 53, 32, 32, 49, 10]⟩ : ByteArray) [.string (⟨#[99, 53, 32, 32, 49, 10]⟩ : ByteArray)] from rfl) (Reps.one (show Kd.M Kd.string _ _ _ (⟨#[99, 53, 32, 49, 10, 10]⟩ : ByteArray) [.string (⟨#[99, 53, 32, 49, 10, 10]⟩ : ByteArray)] from rfl) (Reps.none _ _))))))))))))); intro v493 w18 ho19 hb hg_ hnew_; clear hg_ hnew_; (first | rw [← Ny492.out] at ho19 | (simp only [Int.reduceToNat] at ho19; rw [← Ny492.out] at ho19)); have HO494 := M_ (Kd.R_lower ho19 (bZ_ HB)); replace HI478 := M_ (IsS55.below (iU_ HI478) hb); replace HB := M_ (bS_ HB hb); clear hb ho19; obtain ⟨Ao20, co20, eo20⟩ := Kd.R_slice HO494.out; subst eo20) | ((with_reducible refine gc_ 45 ?_); refine gM_ (some 23) Tryz.func45 #[.pointer (some ⟨g478, 0, none⟩), .slice Ao20 y492.length co20] ?_; (with_reducible refine (spec_l1Cur_of.calls g478 t475 t487 t488 _ _ y492 t495 t496 t497 w _ ?side1 ?side2 ?side3 ?side4 ?side5 A17.out).mono ?_); (case side1 => exact iU_ HI478); (case side2 => exact bU_ HB); (case side3 => exact cU_ (Kd.R_reads' HO494.out).2.2); (case side4 => exact (Kd.R_reads' HO494.out).2.1); (case side5 => exact far_slice (IsS55.own_ne HI478.out HO494.out (by decide))); rintro e w21 ⟨rfl, hi, hb, hk⟩; refine ⟨_, rfl, ?_⟩; replace HO494 := M_ (ik_ HI478 HO494 hk); replace HB := M_ (hb); replace HI478 := M_ (hi); clear hb hk hi))
     go_ret
     exact ⟨eR_, bU_ HB⟩
    ·rw [if_neg c16] at H
     have c16b0 : (t486 == 2) = false := beq_eq_false_iff_ne.mpr c16
     have c16b1 : (t486 != 2) = true := bne_iff_ne.mpr c16
     obtain rfl := Option.some.inj H
     go_wp2
     go_ret
     exact ⟨eR_, bU_ HB⟩

end Go.Proofs.YtpkklbjdhmpjnaaGreatDoor.PFnInstruments
