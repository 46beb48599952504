-- by wip/xprint.py, over the kit's printer
import Derived.Test.YtgeipgflhjakjaaPFnPlayablex0
import Derived.Test.YtgeipgflhjakjaaPFnPlayablex4
import Derived.Test.YtgeipgflhjakjaaPFnPlayablex6
import Derived.Test.YtgeipgflhjakjaaPFnPlayablex7
import Derived.Test.YtgeipgflhjakjaaPFnPlayablex16
import Derived.Test.YtgeipgflhjakjaaPFnPlayablex17
namespace Go.Proofs.Ytgeipgflhjakjaa.PFnPlayable
open Go.RowKit Go.Proofs.YtgeipgflhjakjaaW.PrintWords Go.Proofs.YtgeipgflhjakjaaW.PrintLast Go.Proofs.YtgeipgflhjakjaaW.PrintMore
attribute [local go_sem] max2_int min2_int max_two min_two max_three min_three max_four min_four   -- for this text's walks alone
set_option linter.unusedVariables false
set_option linter.unusedSimpArgs false

def spec_PlayablePart.f (k : Nat) (l0_0 : List Int) (a0_1 : Int) (l1 : List (S80)) : Option ((List (S80)) × Bool) := (spec_inAsked.f k l0_0 a0_1 l1).bind fun t555 => (if t555 = true then ((spec_inPart.f k l0_0 a0_1 l1).bind fun t556 => (some (t556, true))) else (some (([] : List (S80)), false)))
theorem spec_PlayablePart.mono : ∀ a0 a1 a2 k, LeO (spec_PlayablePart.f k a0 a1 a2) (spec_PlayablePart.f (k + 1) a0 a1 a2) := by
 intro a0 a1 a2 k
 unfold spec_PlayablePart.f
 have m0_ := @spec_inAsked.mono;have m1_ := @spec_inPart.mono;exact mo_
set_option maxHeartbeats 8000000 in
set_option maxRecDepth 100000 in
theorem spec_PlayablePart.calls (k : Nat) (A0_0 : Option Addr) (c0_0 : Nat) (l0_0 : List Int) (a0_1 : Int) (A1 : Option Addr) (c1 : Nat) (l1 : List (S80)) (r1 : List (S80)) (r2 : Bool) (w : World) (hr0_0 : Kd.C (Kd.int .i64) w A0_0 l0_0.length l0_0) (hc0_0 : l0_0.length ≤ c0_0) (hr1 : Kd.C k80 w A1 l1.length l1) (hc1 : l1.length ≤ c1) (h : spec_PlayablePart.f k l0_0 a0_1 l1 = some (r1, r2)) :
  Calls Try.prog 52 #[.agg #[.slice A0_0 l0_0.length c0_0, .int .i64 a0_1], .slice A1 l1.length c1] w fun e w' => ∃ v0_ : Value, e = .returned (.tuple #[v0_, .bool r2]) ∧ Kd.R k80 80 w' w.heap.size (fun _ => True) v0_ r1 ∧ Below w.heap.size w w' := by
 have hu58 := Try.underlying58;have HR0_0 := M_ hr0_0;have HC0_0 := M_ hc0_0;clear hr0_0 hc0_0;have HR1 := M_ hr1;have HC1 := M_ hc1;clear hr1 hc1;have HB := M_ (Below.refl w.heap.size w)
 have H : ((spec_inAsked.f k l0_0 a0_1 l1).bind fun t555 => (if t555 = true then ((spec_inPart.f k l0_0 a0_1 l1).bind fun t556 => (some (t556, true))) else (some (([] : List (S80)), false)))) = some (r1, r2) := h
 clear h;replace H := Option.bind_eq_some_iff.mp H;obtain ⟨t555, A30, H⟩ := H;(try dsimp only at H);have A3 := M_ A30;clear A30
 by_cases c4 : t555 = true
 ·subst c4
  rw [if_pos rfl] at H
  replace H := Option.bind_eq_some_iff.mp H;obtain ⟨t556, A50, H⟩ := H;replace H : (some (t556, true)) = some (r1, r2) := H;have A5 := M_ A50;clear A50;simp only [Option.some.injEq, Prod.mk.injEq] at H;obtain ⟨rfl, rfl⟩ := H
  go_enter Try.func52, Try.ntmps52
  go_wp2_with (first | ((with_reducible refine gate_dst (N := 2) rfl ?_); refine bx_ (N := 2) (cs := #[.slice A0_0 l0_0.length c0_0, .int .i64 a0_1]) (t := 58) ?_; intro gb554 hg w6 hbox hb; have BK554 := M_ (hbox); have GW554 := M_ (gw_ HB hg); have GE554 := M_ (gw_ HB hg); replace HB := M_ (bS_ HB hb); clear hb hbox hg; obtain ⟨hcz7_0, hcz7_1, hfz7_0, hfz7_1⟩ := bq2_ BK554) | ((with_reducible refine gc_ 106 ?_); refine gM_ (some 8) Try.func106 #[.agg #[.slice A0_0 l0_0.length c0_0, .int .i64 a0_1], .slice A1 l1.length c1] ?_; (with_reducible refine (spec_inAsked.calls k _ _ l0_0 a0_1 _ _ l1 true _ ?side1 ?side2 ?side3 ?side4 A3.out).mono ?_); (case side1 => exact cU_ (Kd.C_below HR0_0.out HB.out)); (case side2 => exact HC0_0.out); (case side3 => exact cU_ (Kd.C_below HR1.out HB.out)); (case side4 => exact HC1.out); rintro e w8 ⟨rfl, hb⟩; refine ⟨_, rfl, ?_⟩; replace BK554 := M_ (kb_ BK554 hb); replace HB := M_ (bS_ HB hb); clear hb; obtain ⟨hcz9_0, hcz9_1, hfz9_0, hfz9_1⟩ := bq2_ BK554) | ((with_reducible refine gc_ 109 ?_); refine gM_ (some 12) Try.func109 #[.agg #[.slice A0_0 l0_0.length c0_0, .int .i64 a0_1], .slice A1 l1.length c1] ?_; (with_reducible refine (spec_inPart.calls k _ _ l0_0 a0_1 _ _ l1 t556 _ ?side1 ?side2 ?side3 ?side4 A5.out).mono ?_); (case side1 => exact cU_ (Kd.C_below HR0_0.out HB.out)); (case side2 => exact HC0_0.out); (case side3 => exact cU_ (Kd.C_below HR1.out HB.out)); (case side4 => exact HC1.out); rintro e w10 ⟨v557, rfl, ho0, hb⟩; refine ⟨_, rfl, ?_⟩; have HO558 := M_ (Kd.R_lower ho0 (bZ_ HB)); replace BK554 := M_ (kb_ BK554 hb); replace HB := M_ (bS_ HB hb); clear hb ho0))
  go_ret2
  exact ⟨_, eR_, rU_ HO558.out, bU_ HB⟩
 ·replace c4 := Bool.eq_false_iff.mpr c4
  subst c4
  rw [if_neg (show ¬ (false = true) by decide)] at H
  simp only [Option.some.injEq, Prod.mk.injEq] at H;obtain ⟨rfl, rfl⟩ := H
  go_enter Try.func52, Try.ntmps52
  go_wp2_with (first | ((with_reducible refine gate_dst (N := 2) rfl ?_); refine bx_ (N := 2) (cs := #[.slice A0_0 l0_0.length c0_0, .int .i64 a0_1]) (t := 58) ?_; intro gb554 hg w11 hbox hb; have BK554 := M_ (hbox); have GW554 := M_ (gw_ HB hg); have GE554 := M_ (gw_ HB hg); replace HB := M_ (bS_ HB hb); clear hb hbox hg; obtain ⟨hcz12_0, hcz12_1, hfz12_0, hfz12_1⟩ := bq2_ BK554) | ((with_reducible refine gc_ 106 ?_); refine gM_ (some 8) Try.func106 #[.agg #[.slice A0_0 l0_0.length c0_0, .int .i64 a0_1], .slice A1 l1.length c1] ?_; (with_reducible refine (spec_inAsked.calls k _ _ l0_0 a0_1 _ _ l1 false _ ?side1 ?side2 ?side3 ?side4 A3.out).mono ?_); (case side1 => exact cU_ (Kd.C_below HR0_0.out HB.out)); (case side2 => exact HC0_0.out); (case side3 => exact cU_ (Kd.C_below HR1.out HB.out)); (case side4 => exact HC1.out); rintro e w13 ⟨rfl, hb⟩; refine ⟨_, rfl, ?_⟩; replace BK554 := M_ (kb_ BK554 hb); replace HB := M_ (bS_ HB hb); clear hb))
  go_ret2
  exact ⟨_, eR_, by first | exact Kd.R_nil _ _ _ _ _ | exact Kd.N_nil _ _ _ _ _ | exact Kd.V_nil _ _ _ _ _ | exact Kd.Q_nil _ _ _ _ _ | exact Kd.S_nil _ _ _ _ _, bU_ HB⟩
mutual
def impl_fastRepeats.l0 : Nat → List (S80) → Int → List (List Int) → List (S80) → Int → Int → Option ((List (List Int)))
 | 0, _, _, _, _, _, _ => none
 | k + 1, x0, x1, x5, x10, x11, x12 => if x12 < x11 then (if 0 ≤ x12 then (if x12 < (x10.length : Int) then (impl_fastRepeats.l1 k x0 x1 x5 x12 (wrap64 (x12 - 1)) x10 x11 x12 ((rd_T80 x10 x12).f0) ((rd_T80 x10 x12).f1) ((rd_T80 x10 x12).f2)) else (none)) else (none)) else (some x5)
def impl_fastRepeats.l1 : Nat → List (S80) → Int → List (List Int) → Int → Int → List (S80) → Int → Int → Int → Int → Int → Option ((List (List Int)))
 | 0, _, _, _, _, _, _, _, _, _, _, _ => none
 | k + 1, x0, x1, x5, x6, x8, x10, x11, x12, x564000, x564001, x564002 => if x8 ≥ 0 then (if 0 ≤ x8 then (if x8 < (x0.length : Int) then (if ((rd_T80 x0 x8).f0) = x564000 then (if (wrap64 (x564001 - ((rd_T80 x0 x8).f1))) < x1 then (if x5.length < 5864062014805 then (impl_fastRepeats.l0 k x0 x1 (x5 ++ [(([x8, x6] : List Int))]) x10 x11 (wrap64 (x12 + 1))) else (none)) else (impl_fastRepeats.l0 k x0 x1 x5 x10 x11 (wrap64 (x12 + 1)))) else (impl_fastRepeats.l1 k x0 x1 x5 x6 (wrap64 (x8 - 1)) x10 x11 x12 x564000 x564001 x564002)) else (none)) else (none)) else (impl_fastRepeats.l0 k x0 x1 x5 x10 x11 (wrap64 (x12 + 1)))
end
def impl_fastRepeats.f (k : Nat) (l0 : List (S80)) (a1 : Int) : Option ((List (List Int))) := impl_fastRepeats.l0 k l0 a1 (([] : List (List Int))) l0 (l0.length : Int) 0
theorem impl_fastRepeats.mono_l : ∀ k, (∀ y0 y1 y2 y3 y4 y5, LeO (impl_fastRepeats.l0 k y0 y1 y2 y3 y4 y5) (impl_fastRepeats.l0 (k + 1) y0 y1 y2 y3 y4 y5)) ∧ (∀ y0 y1 y2 y3 y4 y5 y6 y7 y8 y9 y10, LeO (impl_fastRepeats.l1 k y0 y1 y2 y3 y4 y5 y6 y7 y8 y9 y10) (impl_fastRepeats.l1 (k + 1) y0 y1 y2 y3 y4 y5 y6 y7 y8 y9 y10))
 | 0 => ⟨fun _ _ _ _ _ _ r h => by simp [impl_fastRepeats.l0] at h, fun _ _ _ _ _ _ _ _ _ _ _ r h => by simp [impl_fastRepeats.l1] at h⟩
 | k + 1 => by
  obtain ⟨ih0, ih1⟩ := impl_fastRepeats.mono_l k;refine ⟨?_, ?_⟩
  ·intro y0 y1 y2 y3 y4 y5
   unfold impl_fastRepeats.l0
   exact mo_
  ·intro y0 y1 y2 y3 y4 y5 y6 y7 y8 y9 y10
   unfold impl_fastRepeats.l1
   exact mo_
theorem impl_fastRepeats.mono : ∀ a0 a1 k, LeO (impl_fastRepeats.f k a0 a1) (impl_fastRepeats.f (k + 1) a0 a1) := by
 intro a0 a1 k;obtain ⟨ih0, ih1⟩ := impl_fastRepeats.mono_l k
 unfold impl_fastRepeats.f
 exact mo_
set_option maxHeartbeats 8000000 in
set_option maxRecDepth 100000 in
theorem impl_fastRepeats.calls (k : Nat) (A0 : Option Addr) (c0 : Nat) (l0 : List (S80)) (a1 : Int) (r : List (List Int)) (w : World) (hr0 : Kd.C k80 w A0 l0.length l0) (hc0 : l0.length ≤ c0) (h : impl_fastRepeats.f k l0 a1 = some r) :
  Calls Try.prog 112 #[.slice A0 l0.length c0, .int .i64 a1] w fun e w' => ∃ v0_ : Value, e = .returned (v0_) ∧ Kd.S (Kd.slice 3 (Kd.int .i64)) 42 w' w.heap.size (fun _ => True) v0_ r ∧ Below w.heap.size w w' := by
 have hu80 := Try.underlying80;have HR0 := M_ hr0;have HC0 := M_ hc0;clear hr0 hc0;have HB := M_ (Below.refl w.heap.size w)
 have H : (impl_fastRepeats.l0 k l0 a1 (([] : List (List Int))) l0 (l0.length : Int) 0) = some r := h
 clear h;obtain ⟨y559, hy559⟩ : ∃ y_ : List (List Int), y_ = (([] : List (List Int))) := ⟨_, rfl⟩
 replace H : (impl_fastRepeats.l0 k l0 a1 y559 l0 (l0.length : Int) 0) = some r := by first | (rw [hy559]; with_reducible exact H) | (have H2_ := (Option.bind_some _ _).symm.trans H; rw [hy559]; with_reducible exact H2_) | (have H2_ := (Option.bind_some _ _).symm.trans H; with_reducible exact H2_) | with_reducible exact H | (rw [hy559]; exact H) | exact H
 have Ny559 := M_ hy559;clear hy559
 have H' := M_ H
 clear H
 go_enter Try.func112, Try.ntmps112
 go_wp2_with (first | ((with_reducible refine gate_dst (N := 9) rfl ?_); refine Kd.S_lit (Kd.slice 3 (Kd.int .i64)) _ 42 ?hg (N := 9) ?hd (xs := ([] : List (List Int))) (inner := []) (ok := fun _ => True) (okp := fun _ => True) ?hr ?hp (fun _ hk => hk) trivial (Below.refl _ _) (Nat.le_refl _) (by simp) ?_; (case hd => rfl); (case hg => rfl); (case hr => first | (go_simp; done) | (go_simp; rfl)); (case hp => exact (Reps.none _ _)); intro v560 w3 ho4 hb hg_ hnew_; clear hg_ hnew_; (first | rw [← Ny559.out] at ho4 | (simp only [Int.reduceToNat] at ho4; rw [← Ny559.out] at ho4)); have HO561 := M_ (Kd.S_lower ho4 (bZ_ HB)); replace HB := M_ (bS_ HB hb); clear hb ho4))
 repeat (go_quiet (first | ((with_reducible refine gate_dst (N := 9) rfl ?_); refine Kd.S_lit (Kd.slice 3 (Kd.int .i64)) _ 42 ?hg (N := 9) ?hd (xs := ([] : List (List Int))) (inner := []) (ok := fun _ => True) (okp := fun _ => True) ?hr ?hp (fun _ hk => hk) trivial (Below.refl _ _) (Nat.le_refl _) (by simp) ?_; (case hd => rfl); (case hg => rfl); (case hr => first | (go_simp; done) | (go_simp; rfl)); (case hp => exact (Reps.none _ _)); intro v560 w3 ho4 hb hg_ hnew_; clear hg_ hnew_; (first | rw [← Ny559.out] at ho4 | (simp only [Int.reduceToNat] at ho4; rw [← Ny559.out] at ho4)); have HO561 := M_ (Kd.S_lower ho4 (bZ_ HB)); replace HB := M_ (bS_ HB hb); clear hb ho4)); try go_wp2_with (first | ((with_reducible refine gate_dst (N := 9) rfl ?_); refine Kd.S_lit (Kd.slice 3 (Kd.int .i64)) _ 42 ?hg (N := 9) ?hd (xs := ([] : List (List Int))) (inner := []) (ok := fun _ => True) (okp := fun _ => True) ?hr ?hp (fun _ hk => hk) trivial (Below.refl _ _) (Nat.le_refl _) (by simp) ?_; (case hd => rfl); (case hg => rfl); (case hr => first | (go_simp; done) | (go_simp; rfl)); (case hp => exact (Reps.none _ _)); intro v560 w3 ho4 hb hg_ hnew_; clear hg_ hnew_; (first | rw [← Ny559.out] at ho4 | (simp only [Int.reduceToNat] at ho4; rw [← Ny559.out] at ho4)); have HO561 := M_ (Kd.S_lower ho4 (bZ_ HB)); replace HB := M_ (bS_ HB hb); clear hb ho4)))
 go_loopg [5, 12] k (fun kq v5 v12 w' => ∃ (x5_1 : List (List Int)) (x12_1 : Int), v12 = .int .i64 x12_1 ∧ Aside0 (impl_fastRepeats.l0 kq l0 a1 x5_1 l0 (l0.length : Int) x12_1 = some r) ∧ Aside0 (kq ≤ k) ∧ Aside0 (Kd.S (Kd.slice 3 (Kd.int .i64)) 42 w' w.heap.size (fun _ => True) v5 x5_1) ∧ Aside0 (Below w.heap.size w w'))
 case atStart => exact ⟨(y559), (0), eD_, H', ⟨Nat.le_refl _⟩, ⟨by (with_reducible repeat (first | apply Kd.S_alloc | apply Kd.S_drewN | apply Kd.S_drew)); exact HO561.out⟩, ⟨bU_ HB⟩⟩
 case round =>
  clear H';obtain ⟨x5_1, x12_1, rfl, HA, HK1, HO_5, HB⟩ := hrel
  cases gk with
  | zero => exact absurd HA.out (by simp [impl_fastRepeats.l0])
  | succ k1 =>
   have H := HA.out;clear HA;simp only [impl_fastRepeats.l0] at H
   by_cases c5 : x12_1 < (l0.length : Int)
   ·rw [if_pos c5] at H
    have c5b0 : decide (x12_1 < (l0.length : Int)) = true := decide_eq_true c5
    clear c5
    by_cases c6 : 0 ≤ x12_1
    ·rw [if_pos c6] at H
     have c6b0 : decide (0 ≤ x12_1) = true := decide_eq_true c6
     clear c6
     by_cases c7 : x12_1 < (l0.length : Int)
     ·rw [if_pos c7] at H
      have c7b0 : decide (x12_1 < (l0.length : Int)) = true := decide_eq_true c7
      clear c7
      have H' := M_ H
      clear H
      have p562 : 0 ≤ (x12_1 : Int) := dT_
      have q562 : x12_1 < (l0.length : Int) := dT_
      obtain ⟨ad562, e562, hx562_0, hx562_1, hx562_2⟩ := at_T80 HR0.out x12_1 p562 q562;cases e562;replace hx562_0 := (HB.out.cell (World.block_lt_of_cell? w _ hx562_0)).trans hx562_0;replace hx562_1 := (HB.out.cell (World.block_lt_of_cell? w _ hx562_1)).trans hx562_1;replace hx562_2 := (HB.out.cell (World.block_lt_of_cell? w _ hx562_2)).trans hx562_2;replace p562 := eq_true p562;replace q562 := eq_true q562
      go_wp2_with (first | ((with_reducible refine gate_dst (N := 7) rfl ?_); refine bx_ (N := 7) (cs := #[.int .i64 0, .int .i64 0, .int .i64 0]) (t := 80) ?_; intro gb563 hg w8 hbox hb; replace HO_5 := M_ (Kd.S_below (by (with_reducible repeat (first | apply Kd.S_alloc | apply Kd.S_drewN | apply Kd.S_drew)); exact HO_5.out) hb); have BK563 := M_ (hbox); have GW563 := M_ (gw_ HB hg); have GE563 := M_ (gw_ HB hg); replace HB := M_ (bS_ HB hb); clear hb hbox hg; obtain ⟨hcz9_0, hcz9_1, hcz9_2, hfz9_0, hfz9_1, hfz9_2⟩ := bq3_ BK563))
      repeat (go_quiet (first | ((with_reducible refine gate_dst (N := 7) rfl ?_); refine bx_ (N := 7) (cs := #[.int .i64 0, .int .i64 0, .int .i64 0]) (t := 80) ?_; intro gb563 hg w8 hbox hb; replace HO_5 := M_ (Kd.S_below (by (with_reducible repeat (first | apply Kd.S_alloc | apply Kd.S_drewN | apply Kd.S_drew)); exact HO_5.out) hb); have BK563 := M_ (hbox); have GW563 := M_ (gw_ HB hg); have GE563 := M_ (gw_ HB hg); replace HB := M_ (bS_ HB hb); clear hb hbox hg; obtain ⟨hcz9_0, hcz9_1, hcz9_2, hfz9_0, hfz9_1, hfz9_2⟩ := bq3_ BK563)); try go_wp2_with (first | ((with_reducible refine gate_dst (N := 7) rfl ?_); refine bx_ (N := 7) (cs := #[.int .i64 0, .int .i64 0, .int .i64 0]) (t := 80) ?_; intro gb563 hg w8 hbox hb; replace HO_5 := M_ (Kd.S_below (by (with_reducible repeat (first | apply Kd.S_alloc | apply Kd.S_drewN | apply Kd.S_drew)); exact HO_5.out) hb); have BK563 := M_ (hbox); have GW563 := M_ (gw_ HB hg); have GE563 := M_ (gw_ HB hg); replace HB := M_ (bS_ HB hb); clear hb hbox hg; obtain ⟨hcz9_0, hcz9_1, hcz9_2, hfz9_0, hfz9_1, hfz9_2⟩ := bq3_ BK563)))
      go_loopg [5, 8] k1 (fun kq v5 v8 w' => ∃ (x5_2 : List (List Int)) (x8_2 : Int), v8 = .int .i64 x8_2 ∧ Aside0 (impl_fastRepeats.l1 kq l0 a1 x5_2 x12_1 x8_2 l0 (l0.length : Int) x12_1 ((rd_T80 l0 x12_1).f0) ((rd_T80 l0 x12_1).f1) ((rd_T80 l0 x12_1).f2) = some r) ∧ Aside0 (kq ≤ k1) ∧ Aside0 (Kd.S (Kd.slice 3 (Kd.int .i64)) 42 w' w.heap.size (fun _ => True) v5 x5_2) ∧ Aside0 (w'.heap[gb563]? = some (.cells #[.int .i64 ((rd_T80 l0 x12_1).f0), .int .i64 ((rd_T80 l0 x12_1).f1), .int .i64 ((rd_T80 l0 x12_1).f2)] 80 (0, 0))) ∧ Aside0 (Below w.heap.size w w'))
      case atStart => exact ⟨(x5_1), (wrap64 (x12_1 - 1)), eD_, H', ⟨Nat.le_refl _⟩, ⟨by (with_reducible repeat (first | apply Kd.S_alloc | apply Kd.S_drewN | apply Kd.S_drew)); exact Kd.S_mono (Kd.S_far (p := ⟨gb563, 2, none⟩) (Kd.S_far (p := ⟨gb563, 1, none⟩) (Kd.S_far (p := ⟨gb563, 0, none⟩) (Kd.S_types HO_5.out BK563.out (by decide)) (fun _ hk => hk.2) (.int .i64 ((rd_T80 l0 x12_1).f0))) (fun _ hk => hk.2) (.int .i64 ((rd_T80 l0 x12_1).f1))) (fun _ hk => hk.2) (.int .i64 ((rd_T80 l0 x12_1).f2))) (fun _ hk => trivial)⟩, ⟨by (with_reducible repeat (first | refine kn_ ?_ _ | refine kd_ ?_ | refine ka_ ?_ _)); refine blk_put (cs := #[.int .i64 ((rd_T80 l0 x12_1).f0), .int .i64 ((rd_T80 l0 x12_1).f1), .int .i64 0]) ?_ 2 _ rfl; (with_reducible repeat (first | refine kn_ ?_ _ | refine kd_ ?_ | refine ka_ ?_ _)); refine blk_put (cs := #[.int .i64 ((rd_T80 l0 x12_1).f0), .int .i64 0, .int .i64 0]) ?_ 1 _ rfl; (with_reducible repeat (first | refine kn_ ?_ _ | refine kd_ ?_ | refine ka_ ?_ _)); refine blk_put (cs := #[.int .i64 0, .int .i64 0, .int .i64 0]) ?_ 0 _ rfl; (with_reducible repeat (first | refine kn_ ?_ _ | refine kd_ ?_ | refine ka_ ?_ _)); exact BK563.out⟩, ⟨bU_ HB⟩⟩
      case round =>
       clear H';obtain ⟨x5_2, x8_2, rfl, HA, HK2, HO_5, BK563, HB⟩ := hrel
       cases gk with
       | zero => exact absurd HA.out (by simp [impl_fastRepeats.l1])
       | succ k2 =>
        have H := HA.out;clear HA;simp only [impl_fastRepeats.l1] at H
        by_cases c10 : x8_2 ≥ 0
        ·rw [if_pos c10] at H
         have c10b0 : decide (0 ≤ x8_2) = true := decide_eq_true c10
         clear c10
         by_cases c11 : 0 ≤ x8_2
         ·rw [if_pos c11] at H
          have c11b0 : decide (0 ≤ x8_2) = true := decide_eq_true c11
          clear c11
          by_cases c12 : x8_2 < (l0.length : Int)
          ·rw [if_pos c12] at H
           have c12b0 : decide (x8_2 < (l0.length : Int)) = true := decide_eq_true c12
           clear c12
           by_cases c13 : ((rd_T80 l0 x8_2).f0) = ((rd_T80 l0 x12_1).f0)
           ·rw [if_pos c13] at H
            have c13b0 : (((rd_T80 l0 x8_2).f0) == ((rd_T80 l0 x12_1).f0)) = true := beq_iff_eq.mpr c13
            have c13b1 : (((rd_T80 l0 x8_2).f0) != ((rd_T80 l0 x12_1).f0)) = false := bne_eq_false_iff_eq.mpr c13
            clear c13
            by_cases c14 : (wrap64 (((rd_T80 l0 x12_1).f1) - ((rd_T80 l0 x8_2).f1))) < a1
            ·rw [if_pos c14] at H
             have c14b0 : decide ((wrap64 (((rd_T80 l0 x12_1).f1) - ((rd_T80 l0 x8_2).f1))) < a1) = true := decide_eq_true c14
             clear c14;obtain ⟨y566, hy566⟩ : ∃ y_ : List Int, y_ = (([x8_2, x12_1] : List Int)) := ⟨_, rfl⟩
             replace H : (if x5_2.length < 5864062014805 then (impl_fastRepeats.l0 k2 l0 a1 (x5_2 ++ [y566]) l0 (l0.length : Int) (wrap64 (x12_1 + 1))) else (none)) = some r := by first | (rw [hy566]; with_reducible exact H) | (have H2_ := (Option.bind_some _ _).symm.trans H; rw [hy566]; with_reducible exact H2_) | (have H2_ := (Option.bind_some _ _).symm.trans H; with_reducible exact H2_) | with_reducible exact H | (rw [hy566]; exact H) | exact H
             have Ny566 := M_ hy566;clear hy566
             by_cases c15 : x5_2.length < 5864062014805
             ·rw [if_pos c15] at H
              have LMc15 := M_ c15;clear c15;obtain ⟨y569, hy569⟩ : ∃ y_ : List (List Int), y_ = (x5_2 ++ [y566]) := ⟨_, rfl⟩
              replace H : (impl_fastRepeats.l0 k2 l0 a1 y569 l0 (l0.length : Int) (wrap64 (x12_1 + 1))) = some r := by first | (rw [hy569]; with_reducible exact H) | (have H2_ := (Option.bind_some _ _).symm.trans H; rw [hy569]; with_reducible exact H2_) | (have H2_ := (Option.bind_some _ _).symm.trans H; with_reducible exact H2_) | with_reducible exact H | (rw [hy569]; exact H) | exact H
              have Ny569 := M_ hy569;clear hy569
              have H' := M_ H
              clear H
              have p564 : 0 ≤ (x8_2 : Int) := dT_
              have q564 : x8_2 < (l0.length : Int) := dT_
              obtain ⟨ad564, e564, hx564_0, hx564_1, hx564_2⟩ := at_T80 HR0.out x8_2 p564 q564;obtain rfl : ad562 = ad564 := (by injection e564);replace hx564_0 := (HB.out.cell (World.block_lt_of_cell? w _ hx564_0)).trans hx564_0;replace hx564_1 := (HB.out.cell (World.block_lt_of_cell? w _ hx564_1)).trans hx564_1;replace hx564_2 := (HB.out.cell (World.block_lt_of_cell? w _ hx564_2)).trans hx564_2;replace p564 := eq_true p564;replace q564 := eq_true q564;obtain ⟨hcz16_0, hcz16_1, hcz16_2, hfz16_0, hfz16_1, hfz16_2⟩ := bq3_ BK563
              have p565 : 0 ≤ (x8_2 : Int) := dT_
              have q565 : x8_2 < (l0.length : Int) := dT_
              obtain ⟨ad565, e565, hx565_0, hx565_1, hx565_2⟩ := at_T80 HR0.out x8_2 p565 q565;obtain rfl : ad562 = ad565 := (by injection e565);replace hx565_0 := (HB.out.cell (World.block_lt_of_cell? w _ hx565_0)).trans hx565_0;replace hx565_1 := (HB.out.cell (World.block_lt_of_cell? w _ hx565_1)).trans hx565_1;replace hx565_2 := (HB.out.cell (World.block_lt_of_cell? w _ hx565_2)).trans hx565_2;replace p565 := eq_true p565;replace q565 := eq_true q565
              go_wp2_with (first | ((with_reducible refine gate_dst (N := 44) rfl ?_); refine lt_ (Kd.int .i64) 3 (N := 44) (([x8_2, x12_1] : List Int)) [.int .i64 x8_2, .int .i64 x12_1] ri_ ?_; intro v567 w17 ho18 hb hg_ hnew_; clear hg_ hnew_; replace ho18 := rN_ Ny566 ho18; replace HO_5 := M_ (Kd.S_elder' (by (with_reducible repeat (first | apply Kd.S_alloc | apply Kd.S_drewN | apply Kd.S_drew)); exact HO_5.out) (Kd.R_base ho18) hb); have HO568 := M_ (Kd.R_lower ho18 (bZ_ HB)); replace BK563 := M_ (kb_ BK563 hb); replace HB := M_ (bS_ HB hb); clear hb ho18; obtain ⟨Ao20, co20, eo20⟩ := Kd.R_slice HO568.out; subst eo20) | ((with_reducible refine gate_builtin (b := .append) (xs := #[.tmp 41, .tmp 45]) rfl ?_); at_builtin; refine Kd.S_append (Kd.slice 3 (Kd.int .i64)) (w0 := w) w.heap.size rfl (.tmp 41) (.tmp 45) 73 42 (.slice none 0 0) 24 rfl Try.underlying73 info42 rfl (by decide) (by omega) u5 x5_2 y566 [.slice Ao20 y566.length co20] (fun _ => True) (fun k_ => some k_ = (.slice Ao20 y566.length co20 : Value).ownBlock) rfl rfl ?aP (fun k_ hk_ => ((rm_ (ok' := fun k_ => ((fun _ => True)) k_ ∧ some k_ ≠ (u5 : Value).ownBlock) (Kd.R_apart' (HO568.out) (Kd.S_typed HO_5.out) (by decide)) (fun k_ hk => ⟨trivial, hk.2⟩))).1 k_ hk_.symm) ?aF ?aO ?aB ?aS ?aL ?_; (case aP => exact Kd.M_row (rm_ (Kd.R_tight rfl (rm_ (ok' := fun k_ => ((fun _ => True)) k_ ∧ some k_ ≠ (u5 : Value).ownBlock) (Kd.R_apart' (HO568.out) (Kd.S_typed HO_5.out) (by decide)) (fun k_ hk => ⟨trivial, hk.2⟩))) (fun _ h_ => h_))); (case aB => exact (bU_ HB)); (case aF => exact (fun _ _ => trivial)); (case aO => exact (by (with_reducible repeat (first | apply Kd.S_alloc | apply Kd.S_drewN | apply Kd.S_drew)); exact Kd.S_mono HO_5.out (fun k_ hk => ⟨trivial, fun e_ => hk.2 e_⟩))); (case aS => exact (bZ_ HB)); (case aL => have := LMc15.out; omega); intro v570 w19 ho hb hg hat; rw [← Ny569.out] at ho; replace BK563 := M_ (kg_ BK563 hg (Kd.S_ne HO_5.out BK563.out (by decide))); replace HB := M_ (hb); have HO571 := M_ (ho); clear HO_5 HO568; clear ho hb hg hat))
              repeat (go_quiet (first | ((with_reducible refine gate_dst (N := 44) rfl ?_); refine lt_ (Kd.int .i64) 3 (N := 44) (([x8_2, x12_1] : List Int)) [.int .i64 x8_2, .int .i64 x12_1] ri_ ?_; intro v567 w17 ho18 hb hg_ hnew_; clear hg_ hnew_; replace ho18 := rN_ Ny566 ho18; replace HO_5 := M_ (Kd.S_elder' (by (with_reducible repeat (first | apply Kd.S_alloc | apply Kd.S_drewN | apply Kd.S_drew)); exact HO_5.out) (Kd.R_base ho18) hb); have HO568 := M_ (Kd.R_lower ho18 (bZ_ HB)); replace BK563 := M_ (kb_ BK563 hb); replace HB := M_ (bS_ HB hb); clear hb ho18; obtain ⟨Ao20, co20, eo20⟩ := Kd.R_slice HO568.out; subst eo20) | ((with_reducible refine gate_builtin (b := .append) (xs := #[.tmp 41, .tmp 45]) rfl ?_); at_builtin; refine Kd.S_append (Kd.slice 3 (Kd.int .i64)) (w0 := w) w.heap.size rfl (.tmp 41) (.tmp 45) 73 42 (.slice none 0 0) 24 rfl Try.underlying73 info42 rfl (by decide) (by omega) u5 x5_2 y566 [.slice Ao20 y566.length co20] (fun _ => True) (fun k_ => some k_ = (.slice Ao20 y566.length co20 : Value).ownBlock) rfl rfl ?aP (fun k_ hk_ => ((rm_ (ok' := fun k_ => ((fun _ => True)) k_ ∧ some k_ ≠ (u5 : Value).ownBlock) (Kd.R_apart' (HO568.out) (Kd.S_typed HO_5.out) (by decide)) (fun k_ hk => ⟨trivial, hk.2⟩))).1 k_ hk_.symm) ?aF ?aO ?aB ?aS ?aL ?_; (case aP => exact Kd.M_row (rm_ (Kd.R_tight rfl (rm_ (ok' := fun k_ => ((fun _ => True)) k_ ∧ some k_ ≠ (u5 : Value).ownBlock) (Kd.R_apart' (HO568.out) (Kd.S_typed HO_5.out) (by decide)) (fun k_ hk => ⟨trivial, hk.2⟩))) (fun _ h_ => h_))); (case aB => exact (bU_ HB)); (case aF => exact (fun _ _ => trivial)); (case aO => exact (by (with_reducible repeat (first | apply Kd.S_alloc | apply Kd.S_drewN | apply Kd.S_drew)); exact Kd.S_mono HO_5.out (fun k_ hk => ⟨trivial, fun e_ => hk.2 e_⟩))); (case aS => exact (bZ_ HB)); (case aL => have := LMc15.out; omega); intro v570 w19 ho hb hg hat; rw [← Ny569.out] at ho; replace BK563 := M_ (kg_ BK563 hg (Kd.S_ne HO_5.out BK563.out (by decide))); replace HB := M_ (hb); have HO571 := M_ (ho); clear HO_5 HO568; clear ho hb hg hat)); try go_wp2_with (first | ((with_reducible refine gate_dst (N := 44) rfl ?_); refine lt_ (Kd.int .i64) 3 (N := 44) (([x8_2, x12_1] : List Int)) [.int .i64 x8_2, .int .i64 x12_1] ri_ ?_; intro v567 w17 ho18 hb hg_ hnew_; clear hg_ hnew_; replace ho18 := rN_ Ny566 ho18; replace HO_5 := M_ (Kd.S_elder' (by (with_reducible repeat (first | apply Kd.S_alloc | apply Kd.S_drewN | apply Kd.S_drew)); exact HO_5.out) (Kd.R_base ho18) hb); have HO568 := M_ (Kd.R_lower ho18 (bZ_ HB)); replace BK563 := M_ (kb_ BK563 hb); replace HB := M_ (bS_ HB hb); clear hb ho18; obtain ⟨Ao20, co20, eo20⟩ := Kd.R_slice HO568.out; subst eo20) | ((with_reducible refine gate_builtin (b := .append) (xs := #[.tmp 41, .tmp 45]) rfl ?_); at_builtin; refine Kd.S_append (Kd.slice 3 (Kd.int .i64)) (w0 := w) w.heap.size rfl (.tmp 41) (.tmp 45) 73 42 (.slice none 0 0) 24 rfl Try.underlying73 info42 rfl (by decide) (by omega) u5 x5_2 y566 [.slice Ao20 y566.length co20] (fun _ => True) (fun k_ => some k_ = (.slice Ao20 y566.length co20 : Value).ownBlock) rfl rfl ?aP (fun k_ hk_ => ((rm_ (ok' := fun k_ => ((fun _ => True)) k_ ∧ some k_ ≠ (u5 : Value).ownBlock) (Kd.R_apart' (HO568.out) (Kd.S_typed HO_5.out) (by decide)) (fun k_ hk => ⟨trivial, hk.2⟩))).1 k_ hk_.symm) ?aF ?aO ?aB ?aS ?aL ?_; (case aP => exact Kd.M_row (rm_ (Kd.R_tight rfl (rm_ (ok' := fun k_ => ((fun _ => True)) k_ ∧ some k_ ≠ (u5 : Value).ownBlock) (Kd.R_apart' (HO568.out) (Kd.S_typed HO_5.out) (by decide)) (fun k_ hk => ⟨trivial, hk.2⟩))) (fun _ h_ => h_))); (case aB => exact (bU_ HB)); (case aF => exact (fun _ _ => trivial)); (case aO => exact (by (with_reducible repeat (first | apply Kd.S_alloc | apply Kd.S_drewN | apply Kd.S_drew)); exact Kd.S_mono HO_5.out (fun k_ hk => ⟨trivial, fun e_ => hk.2 e_⟩))); (case aS => exact (bZ_ HB)); (case aL => have := LMc15.out; omega); intro v570 w19 ho hb hg hat; rw [← Ny569.out] at ho; replace BK563 := M_ (kg_ BK563 hg (Kd.S_ne HO_5.out BK563.out (by decide))); replace HB := M_ (hb); have HO571 := M_ (ho); clear HO_5 HO568; clear ho hb hg hat)))
              go_roundg k2
              case measure => have := HK1.out; have := HK2.out; omega
              case rel => exact ⟨(y569), (wrap64 (x12_1 + 1)), eD_, H', ⟨by have := HK1.out; have := HK2.out; omega⟩, ⟨by (with_reducible repeat (first | apply Kd.S_alloc | apply Kd.S_drewN | apply Kd.S_drew)); exact HO571.out⟩, ⟨bU_ HB⟩⟩
             ·rw [if_neg c15] at H
              exact absurd H (by simp)
            ·rw [if_neg c14] at H
             have c14b0 : decide ((wrap64 (((rd_T80 l0 x12_1).f1) - ((rd_T80 l0 x8_2).f1))) < a1) = false := decide_eq_false c14
             clear c14
             have H' := M_ H
             clear H
             have p564 : 0 ≤ (x8_2 : Int) := dT_
             have q564 : x8_2 < (l0.length : Int) := dT_
             obtain ⟨ad564, e564, hx564_0, hx564_1, hx564_2⟩ := at_T80 HR0.out x8_2 p564 q564;obtain rfl : ad562 = ad564 := (by injection e564);replace hx564_0 := (HB.out.cell (World.block_lt_of_cell? w _ hx564_0)).trans hx564_0;replace hx564_1 := (HB.out.cell (World.block_lt_of_cell? w _ hx564_1)).trans hx564_1;replace hx564_2 := (HB.out.cell (World.block_lt_of_cell? w _ hx564_2)).trans hx564_2;replace p564 := eq_true p564;replace q564 := eq_true q564;obtain ⟨hcz21_0, hcz21_1, hcz21_2, hfz21_0, hfz21_1, hfz21_2⟩ := bq3_ BK563
             have p565 : 0 ≤ (x8_2 : Int) := dT_
             have q565 : x8_2 < (l0.length : Int) := dT_
             obtain ⟨ad565, e565, hx565_0, hx565_1, hx565_2⟩ := at_T80 HR0.out x8_2 p565 q565;obtain rfl : ad562 = ad565 := (by injection e565);replace hx565_0 := (HB.out.cell (World.block_lt_of_cell? w _ hx565_0)).trans hx565_0;replace hx565_1 := (HB.out.cell (World.block_lt_of_cell? w _ hx565_1)).trans hx565_1;replace hx565_2 := (HB.out.cell (World.block_lt_of_cell? w _ hx565_2)).trans hx565_2;replace p565 := eq_true p565;replace q565 := eq_true q565
             go_wp2
             repeat (go_quiet (fail); try go_wp2)
             go_roundg k2
             case measure => have := HK1.out; have := HK2.out; omega
             case rel => exact ⟨(x5_2), (wrap64 (x12_1 + 1)), eD_, H', ⟨by have := HK1.out; have := HK2.out; omega⟩, ⟨by (with_reducible repeat (first | apply Kd.S_alloc | apply Kd.S_drewN | apply Kd.S_drew)); exact HO_5.out⟩, ⟨bU_ HB⟩⟩
           ·rw [if_neg c13] at H
            have c13b0 : (((rd_T80 l0 x8_2).f0) == ((rd_T80 l0 x12_1).f0)) = false := beq_eq_false_iff_ne.mpr c13
            have c13b1 : (((rd_T80 l0 x8_2).f0) != ((rd_T80 l0 x12_1).f0)) = true := bne_iff_ne.mpr c13
            have H' := M_ H
            clear H
            have p564 : 0 ≤ (x8_2 : Int) := dT_
            have q564 : x8_2 < (l0.length : Int) := dT_
            obtain ⟨ad564, e564, hx564_0, hx564_1, hx564_2⟩ := at_T80 HR0.out x8_2 p564 q564;obtain rfl : ad562 = ad564 := (by injection e564);replace hx564_0 := (HB.out.cell (World.block_lt_of_cell? w _ hx564_0)).trans hx564_0;replace hx564_1 := (HB.out.cell (World.block_lt_of_cell? w _ hx564_1)).trans hx564_1;replace hx564_2 := (HB.out.cell (World.block_lt_of_cell? w _ hx564_2)).trans hx564_2;replace p564 := eq_true p564;replace q564 := eq_true q564;obtain ⟨hcz22_0, hcz22_1, hcz22_2, hfz22_0, hfz22_1, hfz22_2⟩ := bq3_ BK563
            go_wp2
            repeat (go_quiet (fail); try go_wp2)
            go_roundg k2
            case measure => have := HK1.out; have := HK2.out; omega
            case rel => exact ⟨(x5_2), (wrap64 (x8_2 - 1)), eD_, H', ⟨by have := HK1.out; have := HK2.out; omega⟩, ⟨by (with_reducible repeat (first | apply Kd.S_alloc | apply Kd.S_drewN | apply Kd.S_drew)); exact HO_5.out⟩, ⟨kU_ BK563⟩, ⟨bU_ HB⟩⟩
          ·rw [if_neg c12] at H
           exact absurd H (by simp)
         ·rw [if_neg c11] at H
          exact absurd H (by simp)
        ·rw [if_neg c10] at H
         have c10b0 : decide (0 ≤ x8_2) = false := decide_eq_false c10
         clear c10
         have H' := M_ H
         clear H
         go_wp2
         repeat (go_quiet (fail); try go_wp2)
         go_roundg k2
         case measure => have := HK1.out; have := HK2.out; omega
         case rel => exact ⟨(x5_2), (wrap64 (x12_1 + 1)), eD_, H', ⟨by have := HK1.out; have := HK2.out; omega⟩, ⟨by (with_reducible repeat (first | apply Kd.S_alloc | apply Kd.S_drewN | apply Kd.S_drew)); exact HO_5.out⟩, ⟨bU_ HB⟩⟩
     ·rw [if_neg c7] at H
      exact absurd H (by simp)
    ·rw [if_neg c6] at H
     exact absurd H (by simp)
   ·rw [if_neg c5] at H
    have c5b0 : decide (x12_1 < (l0.length : Int)) = false := decide_eq_false c5
    clear c5;obtain rfl := Option.some.inj H
    go_wp2
    repeat (go_quiet (fail); try go_wp2)
    go_ret
    exact ⟨_, eR_, by (with_reducible repeat (first | apply Kd.S_alloc | apply Kd.S_drewN | apply Kd.S_drew)); exact HO_5.out, bU_ HB⟩
def impl_canPlay.l0 : Nat → List (S80) → List (S80) → Int → Int → List Int → Int → Option (Bool)
 | 0, _, _, _, _, _, _ => none
 | k + 1, x1, x7, x8, x9, x573000, x573001 => if x9 < x8 then (if 0 ≤ x9 then (if x9 < (x7.length : Int) then ((slices_Contains_int_int.f k x573000 ((rd_T80 x7 x9).f0)).bind fun t575 => (if t575 = true then (impl_canPlay.l0 k x1 x7 x8 (wrap64 (x9 + 1)) x573000 x573001) else (some false))) else (none)) else (none)) else ((impl_fastRepeats.f k x1 x573001).bind fun t576 => (some ((t576.length : Int) == 0)))
def impl_canPlay.f (k : Nat) (l0_0 : List Int) (a0_1 : Int) (l1 : List (S80)) : Option (Bool) := impl_canPlay.l0 k l1 l1 (l1.length : Int) 0 l0_0 a0_1
theorem impl_canPlay.mono_l : ∀ k, (∀ y0 y1 y2 y3 y4 y5, LeO (impl_canPlay.l0 k y0 y1 y2 y3 y4 y5) (impl_canPlay.l0 (k + 1) y0 y1 y2 y3 y4 y5))
 | 0 => fun _ _ _ _ _ _ r h => by simp [impl_canPlay.l0] at h
 | k + 1 => by
  have ih0 := impl_canPlay.mono_l k
  ·intro y0 y1 y2 y3 y4 y5
   unfold impl_canPlay.l0
   have m0_ := @impl_fastRepeats.mono;have m1_ := @slices_Contains_int_int.mono;exact mo_
theorem impl_canPlay.mono : ∀ a0 a1 a2 k, LeO (impl_canPlay.f k a0 a1 a2) (impl_canPlay.f (k + 1) a0 a1 a2) := by
 intro a0 a1 a2 k;have ih0 := impl_canPlay.mono_l k
 unfold impl_canPlay.f
 have m0_ := @impl_fastRepeats.mono;have m1_ := @slices_Contains_int_int.mono;exact mo_
set_option maxHeartbeats 8000000 in
set_option maxRecDepth 100000 in
theorem impl_canPlay.calls (k : Nat) (A0_0 : Option Addr) (c0_0 : Nat) (l0_0 : List Int) (a0_1 : Int) (A1 : Option Addr) (c1 : Nat) (l1 : List (S80)) (r : Bool) (w : World) (hr0_0 : Kd.C (Kd.int .i64) w A0_0 l0_0.length l0_0) (hc0_0 : l0_0.length ≤ c0_0) (hr1 : Kd.C k80 w A1 l1.length l1) (hc1 : l1.length ≤ c1) (h : impl_canPlay.f k l0_0 a0_1 l1 = some r) :
  Calls Try.prog 110 #[.agg #[.slice A0_0 l0_0.length c0_0, .int .i64 a0_1], .slice A1 l1.length c1] w fun e w' => e = .returned (.bool r) ∧ Below w.heap.size w w' := by
 have hu58 := Try.underlying58;have hu80 := Try.underlying80;have HR0_0 := M_ hr0_0;have HC0_0 := M_ hc0_0;clear hr0_0 hc0_0;have HR1 := M_ hr1;have HC1 := M_ hc1;clear hr1 hc1;have HB := M_ (Below.refl w.heap.size w)
 have H : (impl_canPlay.l0 k l1 l1 (l1.length : Int) 0 l0_0 a0_1) = some r := h
 clear h
 have H' := M_ H
 clear H
 go_enter Try.func110, Try.ntmps110
 go_wp2_with (first | ((with_reducible refine gate_dst (N := 2) rfl ?_); refine bx_ (N := 2) (cs := #[.slice A0_0 l0_0.length c0_0, .int .i64 a0_1]) (t := 58) ?_; intro gb572 hg w3 hbox hb; have BK572 := M_ (hbox); have GW572 := M_ (gw_ HB hg); have GE572 := M_ (gw_ HB hg); replace HB := M_ (bS_ HB hb); clear hb hbox hg))
 go_loopg [9] k (fun kq v9 w' => ∃ (x9_1 : Int), v9 = .int .i64 x9_1 ∧ Aside0 (impl_canPlay.l0 kq l1 l1 (l1.length : Int) x9_1 l0_0 a0_1 = some r) ∧ Aside0 (kq ≤ k) ∧ Aside0 (w'.heap[gb572]? = some (.cells #[(.slice A0_0 l0_0.length c0_0), .int .i64 a0_1] 58 (0, 0))) ∧ Aside0 (Below w.heap.size w w'))
 case atStart => exact ⟨(0), eD_, H', ⟨Nat.le_refl _⟩, ⟨kU_ BK572⟩, ⟨bU_ HB⟩⟩
 case round =>
  clear H';obtain ⟨x9_1, rfl, HA, HK1, BK572, HB⟩ := hrel
  cases gk with
  | zero => exact absurd HA.out (by simp [impl_canPlay.l0])
  | succ k1 =>
   have H := HA.out;clear HA;simp only [impl_canPlay.l0] at H
   by_cases c4 : x9_1 < (l1.length : Int)
   ·rw [if_pos c4] at H
    have c4b0 : decide (x9_1 < (l1.length : Int)) = true := decide_eq_true c4
    clear c4
    by_cases c5 : 0 ≤ x9_1
    ·rw [if_pos c5] at H
     have c5b0 : decide (0 ≤ x9_1) = true := decide_eq_true c5
     clear c5
     by_cases c6 : x9_1 < (l1.length : Int)
     ·rw [if_pos c6] at H
      have c6b0 : decide (x9_1 < (l1.length : Int)) = true := decide_eq_true c6
      clear c6;replace H := Option.bind_eq_some_iff.mp H;obtain ⟨t575, A70, H⟩ := H;(try dsimp only at H);have A7 := M_ A70;clear A70
      by_cases c8 : t575 = true
      focus
       subst c8
       rw [if_pos rfl] at H
       have H' := M_ H
       clear H
      rotate_left
      focus
       replace c8 := Bool.eq_false_iff.mpr c8
       subst c8
       rw [if_neg (show ¬ (false = true) by decide)] at H
       obtain rfl := Option.some.inj H
      rotate_left
      all_goals
       have p573 : 0 ≤ (x9_1 : Int) := dT_
       have q573 : x9_1 < (l1.length : Int) := dT_
       obtain ⟨ad573, e573, hx573_0, hx573_1, hx573_2⟩ := at_T80 HR1.out x9_1 p573 q573;cases e573;replace hx573_0 := (HB.out.cell (World.block_lt_of_cell? w _ hx573_0)).trans hx573_0;replace hx573_1 := (HB.out.cell (World.block_lt_of_cell? w _ hx573_1)).trans hx573_1;replace hx573_2 := (HB.out.cell (World.block_lt_of_cell? w _ hx573_2)).trans hx573_2;replace p573 := eq_true p573;replace q573 := eq_true q573
      ·go_wp2_with (first | ((with_reducible refine gate_dst (N := 6) rfl ?_); refine bx_ (N := 6) (cs := #[.int .i64 0, .int .i64 0, .int .i64 0]) (t := 80) ?_; intro gb574 hg w9 hbox hb; have BK574 := M_ (hbox); have GW574 := M_ (gw_ HB hg); have GE574 := M_ (gw_ HB hg); replace HB := M_ (bS_ HB hb); have NB572_574 := M_ (nb_ BK572 hg); have NB574_572 := M_ ((by rw [hg]; exact Nat.ne_of_gt (blk_lt (kU_ BK572)) : gb574 ≠ gb572)); replace BK572 := M_ (kb_ BK572 hb); clear hb hbox hg; have hnb10 := NB574_572.out; have hnc10 := NB572_574.out; obtain ⟨hcz11_0, hcz11_1, hcz11_2, hfz11_0, hfz11_1, hfz11_2⟩ := bq3_ BK574; obtain ⟨hcz12_0, hcz12_1, hfz12_0, hfz12_1⟩ := bq2_ BK572) | ((with_reducible refine gc_ 103 ?_); refine gM_ (some 17) Try.func103 #[.slice A0_0 l0_0.length c0_0, .int .i64 ((rd_T80 l1 x9_1).f0)] ?_; (with_reducible refine (slices_Contains_int_int.calls k1 _ _ l0_0 ((rd_T80 l1 x9_1).f0) true _ ?side1 ?side2 A7.out).mono ?_); (case side1 => exact Kd.C_below HR0_0.out (bU_ HB)); (case side2 => exact HC0_0.out); rintro e w' ⟨rfl, ⟨nd, rfl⟩⟩; refine ⟨_, rfl, ?_⟩))
       go_roundg k1
       case measure => have := HK1.out; omega
       case rel => exact ⟨(wrap64 (x9_1 + 1)), eD_, H', ⟨by have := HK1.out; omega⟩, ⟨by (with_reducible repeat (first | refine kn_ ?_ _ | refine kd_ ?_ | refine ka_ ?_ _)); refine blk_far ?_ NB572_574.out _; (with_reducible repeat (first | refine kn_ ?_ _ | refine kd_ ?_ | refine ka_ ?_ _)); refine blk_far ?_ NB572_574.out _; (with_reducible repeat (first | refine kn_ ?_ _ | refine kd_ ?_ | refine ka_ ?_ _)); refine blk_far ?_ NB572_574.out _; (with_reducible repeat (first | refine kn_ ?_ _ | refine kd_ ?_ | refine ka_ ?_ _)); exact BK572.out⟩, ⟨bU_ HB⟩⟩
      ·go_wp2_with (first | ((with_reducible refine gate_dst (N := 6) rfl ?_); refine bx_ (N := 6) (cs := #[.int .i64 0, .int .i64 0, .int .i64 0]) (t := 80) ?_; intro gb574 hg w13 hbox hb; have BK574 := M_ (hbox); have GW574 := M_ (gw_ HB hg); have GE574 := M_ (gw_ HB hg); replace HB := M_ (bS_ HB hb); have NB572_574 := M_ (nb_ BK572 hg); have NB574_572 := M_ ((by rw [hg]; exact Nat.ne_of_gt (blk_lt (kU_ BK572)) : gb574 ≠ gb572)); replace BK572 := M_ (kb_ BK572 hb); clear hb hbox hg; have hnb14 := NB574_572.out; have hnc14 := NB572_574.out; obtain ⟨hcz15_0, hcz15_1, hcz15_2, hfz15_0, hfz15_1, hfz15_2⟩ := bq3_ BK574; obtain ⟨hcz16_0, hcz16_1, hfz16_0, hfz16_1⟩ := bq2_ BK572) | ((with_reducible refine gc_ 103 ?_); refine gM_ (some 17) Try.func103 #[.slice A0_0 l0_0.length c0_0, .int .i64 ((rd_T80 l1 x9_1).f0)] ?_; (with_reducible refine (slices_Contains_int_int.calls k1 _ _ l0_0 ((rd_T80 l1 x9_1).f0) false _ ?side1 ?side2 A7.out).mono ?_); (case side1 => exact Kd.C_below HR0_0.out (bU_ HB)); (case side2 => exact HC0_0.out); rintro e w' ⟨rfl, ⟨nd, rfl⟩⟩; refine ⟨_, rfl, ?_⟩))
       go_ret
       exact ⟨eR_, bU_ HB⟩
     ·rw [if_neg c6] at H
      exact absurd H (by simp)
    ·rw [if_neg c5] at H
     exact absurd H (by simp)
   ·rw [if_neg c4] at H
    have c4b0 : decide (x9_1 < (l1.length : Int)) = false := decide_eq_false c4
    clear c4;replace H := Option.bind_eq_some_iff.mp H;obtain ⟨t576, A170, H⟩ := H;replace H : (some ((t576.length : Int) == 0)) = some r := H;have A17 := M_ A170;clear A170;obtain rfl := Option.some.inj H;obtain ⟨hcz18_0, hcz18_1, hfz18_0, hfz18_1⟩ := bq2_ BK572
    go_wp2_with (first | ((with_reducible refine gc_ 112 ?_); refine gM_ (some 23) Try.func112 #[.slice A1 l1.length c1, .int .i64 a0_1] ?_; (with_reducible refine (impl_fastRepeats.calls k1 _ _ l1 a0_1 t576 _ ?side1 ?side2 A17.out).mono ?_); (case side1 => exact cU_ (Kd.C_below HR1.out HB.out)); (case side2 => exact HC1.out); rintro e w19 ⟨v577, rfl, ho0, hb⟩; refine ⟨_, rfl, ?_⟩; have HO578 := M_ (Kd.S_lower ho0 (bZ_ HB)); replace BK572 := M_ (kb_ BK572 hb); replace HB := M_ (bS_ HB hb); clear hb ho0; obtain ⟨Ao20, co20, eo20⟩ := Kd.S_slice HO578.out; subst eo20))
    go_ret
    exact ⟨eR_, bU_ HB⟩
def impl_CanPlay.f (k : Nat) (l0_0 : List Int) (a0_1 : Int) (l1 : List (S80)) : Option (Bool × Bool) := (impl_IsInstrument.f k l0_0 a0_1).bind fun t580 => (if t580 = true then ((impl_IsScore.f k l1).bind fun t581 => (if t581 = true then ((impl_canPlay.f k l0_0 a0_1 l1).bind fun t582 => (some (t582, true))) else (some (false, false)))) else (some (false, false)))
theorem impl_CanPlay.mono : ∀ a0 a1 a2 k, LeO (impl_CanPlay.f k a0 a1 a2) (impl_CanPlay.f (k + 1) a0 a1 a2) := by
 intro a0 a1 a2 k
 unfold impl_CanPlay.f
 have m0_ := @impl_IsInstrument.mono;have m1_ := @impl_IsScore.mono;have m2_ := @impl_canPlay.mono;exact mo_
set_option maxHeartbeats 8000000 in
set_option maxRecDepth 100000 in
theorem impl_CanPlay.calls (k : Nat) (A0_0 : Option Addr) (c0_0 : Nat) (l0_0 : List Int) (a0_1 : Int) (A1 : Option Addr) (c1 : Nat) (l1 : List (S80)) (r1 : Bool) (r2 : Bool) (w : World) (hr0_0 : Kd.C (Kd.int .i64) w A0_0 l0_0.length l0_0) (hc0_0 : l0_0.length ≤ c0_0) (hr1 : Kd.C k80 w A1 l1.length l1) (hc1 : l1.length ≤ c1) (h : impl_CanPlay.f k l0_0 a0_1 l1 = some (r1, r2)) :
  Calls Try.prog 53 #[.agg #[.slice A0_0 l0_0.length c0_0, .int .i64 a0_1], .slice A1 l1.length c1] w fun e w' => e = .returned (.tuple #[.bool r1, .bool r2]) ∧ Below w.heap.size w w' := by
 have hu58 := Try.underlying58;have HR0_0 := M_ hr0_0;have HC0_0 := M_ hc0_0;clear hr0_0 hc0_0;have HR1 := M_ hr1;have HC1 := M_ hc1;clear hr1 hc1;have HB := M_ (Below.refl w.heap.size w)
 have H : ((impl_IsInstrument.f k l0_0 a0_1).bind fun t580 => (if t580 = true then ((impl_IsScore.f k l1).bind fun t581 => (if t581 = true then ((impl_canPlay.f k l0_0 a0_1 l1).bind fun t582 => (some (t582, true))) else (some (false, false)))) else (some (false, false)))) = some (r1, r2) := h
 clear h;replace H := Option.bind_eq_some_iff.mp H;obtain ⟨t580, A30, H⟩ := H;(try dsimp only at H);have A3 := M_ A30;clear A30
 by_cases c4 : t580 = true
 ·subst c4
  rw [if_pos rfl] at H
  replace H := Option.bind_eq_some_iff.mp H;obtain ⟨t581, A50, H⟩ := H;(try dsimp only at H);have A5 := M_ A50;clear A50
  by_cases c6 : t581 = true
  ·subst c6
   rw [if_pos rfl] at H
   replace H := Option.bind_eq_some_iff.mp H;obtain ⟨t582, A70, H⟩ := H;replace H : (some (t582, true)) = some (r1, r2) := H;have A7 := M_ A70;clear A70;simp only [Option.some.injEq, Prod.mk.injEq] at H;obtain ⟨rfl, rfl⟩ := H
   go_enter Try.func53, Try.ntmps53
   go_wp2_with (first | ((with_reducible refine gate_dst (N := 2) rfl ?_); refine bx_ (N := 2) (cs := #[.slice A0_0 l0_0.length c0_0, .int .i64 a0_1]) (t := 58) ?_; intro gb579 hg w8 hbox hb; have BK579 := M_ (hbox); have GW579 := M_ (gw_ HB hg); have GE579 := M_ (gw_ HB hg); replace HB := M_ (bS_ HB hb); clear hb hbox hg; obtain ⟨hcz9_0, hcz9_1, hfz9_0, hfz9_1⟩ := bq2_ BK579) | ((with_reducible refine gc_ 101 ?_); refine gM_ (some 7) Try.func101 #[.agg #[.slice A0_0 l0_0.length c0_0, .int .i64 a0_1]] ?_; (with_reducible refine (impl_IsInstrument.calls k _ _ l0_0 a0_1 true _ ?side1 ?side2 A3.out).mono ?_); (case side1 => exact cU_ (Kd.C_below HR0_0.out HB.out)); (case side2 => exact HC0_0.out); rintro e w10 ⟨rfl, hb⟩; refine ⟨_, rfl, ?_⟩; replace BK579 := M_ (kb_ BK579 hb); replace HB := M_ (bS_ HB hb); clear hb) | (go_at_call 90; (with_reducible refine (impl_IsScore.calls k _ _ l1 true _ ?side1 ?side2 A5.out).mono ?_); (case side1 => exact cU_ (Kd.C_below HR1.out HB.out)); (case side2 => exact HC1.out); rintro e w11 ⟨rfl, hb⟩; replace BK579 := M_ (kb_ BK579 hb); replace HB := M_ (bS_ HB hb); clear hb; obtain ⟨hcz12_0, hcz12_1, hfz12_0, hfz12_1⟩ := bq2_ BK579) | ((with_reducible refine gc_ 110 ?_); refine gM_ (some 16) Try.func110 #[.agg #[.slice A0_0 l0_0.length c0_0, .int .i64 a0_1], .slice A1 l1.length c1] ?_; (with_reducible refine (impl_canPlay.calls k _ _ l0_0 a0_1 _ _ l1 t582 _ ?side1 ?side2 ?side3 ?side4 A7.out).mono ?_); (case side1 => exact cU_ (Kd.C_below HR0_0.out HB.out)); (case side2 => exact HC0_0.out); (case side3 => exact cU_ (Kd.C_below HR1.out HB.out)); (case side4 => exact HC1.out); rintro e w13 ⟨rfl, hb⟩; refine ⟨_, rfl, ?_⟩; replace BK579 := M_ (kb_ BK579 hb); replace HB := M_ (bS_ HB hb); clear hb))
   go_ret2
   exact ⟨eR_, bU_ HB⟩
  ·replace c6 := Bool.eq_false_iff.mpr c6
   subst c6
   rw [if_neg (show ¬ (false = true) by decide)] at H
   simp only [Option.some.injEq, Prod.mk.injEq] at H;obtain ⟨rfl, rfl⟩ := H
   go_enter Try.func53, Try.ntmps53
   go_wp2_with (first | ((with_reducible refine gate_dst (N := 2) rfl ?_); refine bx_ (N := 2) (cs := #[.slice A0_0 l0_0.length c0_0, .int .i64 a0_1]) (t := 58) ?_; intro gb579 hg w14 hbox hb; have BK579 := M_ (hbox); have GW579 := M_ (gw_ HB hg); have GE579 := M_ (gw_ HB hg); replace HB := M_ (bS_ HB hb); clear hb hbox hg; obtain ⟨hcz15_0, hcz15_1, hfz15_0, hfz15_1⟩ := bq2_ BK579) | ((with_reducible refine gc_ 101 ?_); refine gM_ (some 7) Try.func101 #[.agg #[.slice A0_0 l0_0.length c0_0, .int .i64 a0_1]] ?_; (with_reducible refine (impl_IsInstrument.calls k _ _ l0_0 a0_1 true _ ?side1 ?side2 A3.out).mono ?_); (case side1 => exact cU_ (Kd.C_below HR0_0.out HB.out)); (case side2 => exact HC0_0.out); rintro e w16 ⟨rfl, hb⟩; refine ⟨_, rfl, ?_⟩; replace BK579 := M_ (kb_ BK579 hb); replace HB := M_ (bS_ HB hb); clear hb) | (go_at_call 90; (with_reducible refine (impl_IsScore.calls k _ _ l1 false _ ?side1 ?side2 A5.out).mono ?_); (case side1 => exact cU_ (Kd.C_below HR1.out HB.out)); (case side2 => exact HC1.out); rintro e w17 ⟨rfl, hb⟩; replace BK579 := M_ (kb_ BK579 hb); replace HB := M_ (bS_ HB hb); clear hb))
   go_ret2
   exact ⟨eR_, bU_ HB⟩
 ·replace c4 := Bool.eq_false_iff.mpr c4
  subst c4
  rw [if_neg (show ¬ (false = true) by decide)] at H
  simp only [Option.some.injEq, Prod.mk.injEq] at H;obtain ⟨rfl, rfl⟩ := H
  go_enter Try.func53, Try.ntmps53
  go_wp2_with (first | ((with_reducible refine gate_dst (N := 2) rfl ?_); refine bx_ (N := 2) (cs := #[.slice A0_0 l0_0.length c0_0, .int .i64 a0_1]) (t := 58) ?_; intro gb579 hg w18 hbox hb; have BK579 := M_ (hbox); have GW579 := M_ (gw_ HB hg); have GE579 := M_ (gw_ HB hg); replace HB := M_ (bS_ HB hb); clear hb hbox hg; obtain ⟨hcz19_0, hcz19_1, hfz19_0, hfz19_1⟩ := bq2_ BK579) | ((with_reducible refine gc_ 101 ?_); refine gM_ (some 7) Try.func101 #[.agg #[.slice A0_0 l0_0.length c0_0, .int .i64 a0_1]] ?_; (with_reducible refine (impl_IsInstrument.calls k _ _ l0_0 a0_1 false _ ?side1 ?side2 A3.out).mono ?_); (case side1 => exact cU_ (Kd.C_below HR0_0.out HB.out)); (case side2 => exact HC0_0.out); rintro e w20 ⟨rfl, hb⟩; refine ⟨_, rfl, ?_⟩; replace BK579 := M_ (kb_ BK579 hb); replace HB := M_ (bS_ HB hb); clear hb))
  go_ret2
  exact ⟨eR_, bU_ HB⟩
def spec_inFast.l0 : Nat → List (S80) → Int → List (List Int) → List (S80) → Int → Int → Option ((List (List Int)))
 | 0, _, _, _, _, _, _ => none
 | k + 1, x0, x1, x5, x9, x10, x11 => if x11 < x10 then (if 0 ≤ x11 then (if x11 < (x9.length : Int) then ((spec_inLast.f k x0 x11).bind fun t585 => (if t585 ≥ 0 then (if 0 ≤ t585 then (if t585 < (x0.length : Int) then (if (wrap64 (((rd_T80 x9 x11).f1) - ((rd_T80 x0 t585).f1))) < x1 then (if x5.length < 5864062014805 then (spec_inFast.l0 k x0 x1 (x5 ++ [(([t585, x11] : List Int))]) x9 x10 (wrap64 (x11 + 1))) else (none)) else (spec_inFast.l0 k x0 x1 x5 x9 x10 (wrap64 (x11 + 1)))) else (none)) else (none)) else (spec_inFast.l0 k x0 x1 x5 x9 x10 (wrap64 (x11 + 1))))) else (none)) else (none)) else (some x5)
def spec_inFast.f (k : Nat) (l0 : List (S80)) (a1 : Int) : Option ((List (List Int))) := spec_inFast.l0 k l0 a1 ([] : List (List Int)) l0 (l0.length : Int) 0
theorem spec_inFast.mono_l : ∀ k, (∀ y0 y1 y2 y3 y4 y5, LeO (spec_inFast.l0 k y0 y1 y2 y3 y4 y5) (spec_inFast.l0 (k + 1) y0 y1 y2 y3 y4 y5))
 | 0 => fun _ _ _ _ _ _ r h => by simp [spec_inFast.l0] at h
 | k + 1 => by
  have ih0 := spec_inFast.mono_l k
  ·intro y0 y1 y2 y3 y4 y5
   unfold spec_inFast.l0
   have m0_ := @spec_inLast.mono;exact mo_
theorem spec_inFast.mono : ∀ a0 a1 k, LeO (spec_inFast.f k a0 a1) (spec_inFast.f (k + 1) a0 a1) := by
 intro a0 a1 k;have ih0 := spec_inFast.mono_l k
 unfold spec_inFast.f
 have m0_ := @spec_inLast.mono;exact mo_
set_option maxHeartbeats 8000000 in
set_option maxRecDepth 100000 in
theorem spec_inFast.calls (k : Nat) (A0 : Option Addr) (c0 : Nat) (l0 : List (S80)) (a1 : Int) (r : List (List Int)) (w : World) (hr0 : Kd.C k80 w A0 l0.length l0) (hc0 : l0.length ≤ c0) (h : spec_inFast.f k l0 a1 = some r) :
  Calls Try.prog 113 #[.slice A0 l0.length c0, .int .i64 a1] w fun e w' => ∃ v0_ : Value, e = .returned (v0_) ∧ Kd.S (Kd.slice 3 (Kd.int .i64)) 42 w' w.heap.size (fun _ => True) v0_ r ∧ Below w.heap.size w w' := by
 have hu80 := Try.underlying80;have HR0 := M_ hr0;have HC0 := M_ hc0;clear hr0 hc0;have HB := M_ (Below.refl w.heap.size w)
 have H : (spec_inFast.l0 k l0 a1 ([] : List (List Int)) l0 (l0.length : Int) 0) = some r := h
 clear h
 have H' := M_ H
 clear H
 go_enter Try.func113, Try.ntmps113
 go_wp2
 repeat (go_quiet (fail); try go_wp2)
 go_loopg [5, 11] k (fun kq v5 v11 w' => ∃ (x5_1 : List (List Int)) (x11_1 : Int), v11 = .int .i64 x11_1 ∧ Aside0 (spec_inFast.l0 kq l0 a1 x5_1 l0 (l0.length : Int) x11_1 = some r) ∧ Aside0 (kq ≤ k) ∧ Aside0 (Kd.S (Kd.slice 3 (Kd.int .i64)) 42 w' w.heap.size (fun _ => True) v5 x5_1) ∧ Aside0 (Below w.heap.size w w'))
 case atStart => exact ⟨(([] : List (List Int))), (0), eD_, H', ⟨Nat.le_refl _⟩, ⟨by first | exact Kd.S_nil _ _ _ _ _ | exact Kd.N_nil _ _ _ _ _ | exact Kd.V_nil _ _ _ _ _ | exact Kd.Q_nil _ _ _ _ _ | exact Kd.R_nil _ _ _ _ _⟩, ⟨bU_ HB⟩⟩
 case round =>
  clear H';obtain ⟨x5_1, x11_1, rfl, HA, HK1, HO_5, HB⟩ := hrel
  cases gk with
  | zero => exact absurd HA.out (by simp [spec_inFast.l0])
  | succ k1 =>
   have H := HA.out;clear HA;simp only [spec_inFast.l0] at H
   by_cases c3 : x11_1 < (l0.length : Int)
   ·rw [if_pos c3] at H
    have c3b0 : decide (x11_1 < (l0.length : Int)) = true := decide_eq_true c3
    clear c3
    by_cases c4 : 0 ≤ x11_1
    ·rw [if_pos c4] at H
     have c4b0 : decide (0 ≤ x11_1) = true := decide_eq_true c4
     clear c4
     by_cases c5 : x11_1 < (l0.length : Int)
     ·rw [if_pos c5] at H
      have c5b0 : decide (x11_1 < (l0.length : Int)) = true := decide_eq_true c5
      clear c5;replace H := Option.bind_eq_some_iff.mp H;obtain ⟨t585, A60, H⟩ := H;(try dsimp only at H);have A6 := M_ A60;clear A60
      by_cases c7 : t585 ≥ 0
      ·rw [if_pos c7] at H
       have c7b0 : decide (0 ≤ t585) = true := decide_eq_true c7
       clear c7
       by_cases c8 : 0 ≤ t585
       ·rw [if_pos c8] at H
        have c8b0 : decide (0 ≤ t585) = true := decide_eq_true c8
        clear c8
        by_cases c9 : t585 < (l0.length : Int)
        ·rw [if_pos c9] at H
         have c9b0 : decide (t585 < (l0.length : Int)) = true := decide_eq_true c9
         clear c9
         by_cases c10 : (wrap64 (((rd_T80 l0 x11_1).f1) - ((rd_T80 l0 t585).f1))) < a1
         ·rw [if_pos c10] at H
          have c10b0 : decide ((wrap64 (((rd_T80 l0 x11_1).f1) - ((rd_T80 l0 t585).f1))) < a1) = true := decide_eq_true c10
          clear c10;obtain ⟨y587, hy587⟩ : ∃ y_ : List Int, y_ = (([t585, x11_1] : List Int)) := ⟨_, rfl⟩
          replace H : (if x5_1.length < 5864062014805 then (spec_inFast.l0 k1 l0 a1 (x5_1 ++ [y587]) l0 (l0.length : Int) (wrap64 (x11_1 + 1))) else (none)) = some r := by first | (rw [hy587]; with_reducible exact H) | (have H2_ := (Option.bind_some _ _).symm.trans H; rw [hy587]; with_reducible exact H2_) | (have H2_ := (Option.bind_some _ _).symm.trans H; with_reducible exact H2_) | with_reducible exact H | (rw [hy587]; exact H) | exact H
          have Ny587 := M_ hy587;clear hy587
          by_cases c11 : x5_1.length < 5864062014805
          ·rw [if_pos c11] at H
           have LMc11 := M_ c11;clear c11;obtain ⟨y590, hy590⟩ : ∃ y_ : List (List Int), y_ = (x5_1 ++ [y587]) := ⟨_, rfl⟩
           replace H : (spec_inFast.l0 k1 l0 a1 y590 l0 (l0.length : Int) (wrap64 (x11_1 + 1))) = some r := by first | (rw [hy590]; with_reducible exact H) | (have H2_ := (Option.bind_some _ _).symm.trans H; rw [hy590]; with_reducible exact H2_) | (have H2_ := (Option.bind_some _ _).symm.trans H; with_reducible exact H2_) | with_reducible exact H | (rw [hy590]; exact H) | exact H
           have Ny590 := M_ hy590;clear hy590
           have H' := M_ H
           clear H
           have p583 : 0 ≤ (x11_1 : Int) := dT_
           have q583 : x11_1 < (l0.length : Int) := dT_
           obtain ⟨ad583, e583, hx583_0, hx583_1, hx583_2⟩ := at_T80 HR0.out x11_1 p583 q583;cases e583;replace hx583_0 := (HB.out.cell (World.block_lt_of_cell? w _ hx583_0)).trans hx583_0;replace hx583_1 := (HB.out.cell (World.block_lt_of_cell? w _ hx583_1)).trans hx583_1;replace hx583_2 := (HB.out.cell (World.block_lt_of_cell? w _ hx583_2)).trans hx583_2;replace p583 := eq_true p583;replace q583 := eq_true q583
           go_wp2_with (first | ((with_reducible refine gate_dst (N := 7) rfl ?_); refine bx_ (N := 7) (cs := #[.int .i64 0, .int .i64 0, .int .i64 0]) (t := 80) ?_; intro gb584 hg w12 hbox hb; replace HO_5 := M_ (Kd.S_below (by (with_reducible repeat (first | apply Kd.S_alloc | apply Kd.S_drewN | apply Kd.S_drew)); exact HO_5.out) hb); have BK584 := M_ (hbox); have GW584 := M_ (gw_ HB hg); have GE584 := M_ (gw_ HB hg); replace HB := M_ (bS_ HB hb); clear hb hbox hg; obtain ⟨hcz13_0, hcz13_1, hcz13_2, hfz13_0, hfz13_1, hfz13_2⟩ := bq3_ BK584) | (go_at_call 131; (with_reducible refine (spec_inLast.calls k1 _ _ l0 x11_1 t585 _ ?side1 ?side2 A6.out).mono ?_); (case side1 => exact Kd.C_below HR0.out (bU_ HB)); (case side2 => exact HC0.out); rintro e w14 ⟨rfl, hb⟩; replace HO_5 := M_ (Kd.S_below (by (with_reducible repeat (first | apply Kd.S_alloc | apply Kd.S_drewN | apply Kd.S_drew)); exact (Kd.S_mono (Kd.S_far (p := ⟨gb584, 2, none⟩) (Kd.S_far (p := ⟨gb584, 1, none⟩) (Kd.S_far (p := ⟨gb584, 0, none⟩) (Kd.S_types HO_5.out BK584.out (by decide)) (fun _ hk => hk.2) (.int .i64 ((rd_T80 l0 x11_1).f0))) (fun _ hk => hk.2) (.int .i64 ((rd_T80 l0 x11_1).f1))) (fun _ hk => hk.2) (.int .i64 ((rd_T80 l0 x11_1).f2))) (fun _ h_ => h_.1))) hb); replace BK584 := M_ (blk_below (g := gb584) (o := .cells #[.int .i64 ((rd_T80 l0 x11_1).f0), .int .i64 ((rd_T80 l0 x11_1).f1), .int .i64 ((rd_T80 l0 x11_1).f2)] 80 (0, 0)) (by (with_reducible repeat (first | refine kn_ ?_ _ | refine kd_ ?_ | refine ka_ ?_ _)); refine blk_put (cs := #[.int .i64 ((rd_T80 l0 x11_1).f0), .int .i64 ((rd_T80 l0 x11_1).f1), .int .i64 0]) ?_ 2 _ rfl; (with_reducible repeat (first | refine kn_ ?_ _ | refine kd_ ?_ | refine ka_ ?_ _)); refine blk_put (cs := #[.int .i64 ((rd_T80 l0 x11_1).f0), .int .i64 0, .int .i64 0]) ?_ 1 _ rfl; (with_reducible repeat (first | refine kn_ ?_ _ | refine kd_ ?_ | refine ka_ ?_ _)); refine blk_put (cs := #[.int .i64 0, .int .i64 0, .int .i64 0]) ?_ 0 _ rfl; (with_reducible repeat (first | refine kn_ ?_ _ | refine kd_ ?_ | refine ka_ ?_ _)); exact BK584.out) hb); replace HB := M_ (bS_ HB hb); clear hb; obtain ⟨hcz15_0, hcz15_1, hcz15_2, hfz15_0, hfz15_1, hfz15_2⟩ := bq3_ BK584; have p586 : 0 ≤ (t585 : Int) := dT_; have q586 : t585 < (l0.length : Int) := dT_; obtain ⟨ad586, e586, hx586_0, hx586_1, hx586_2⟩ := at_T80 HR0.out t585 p586 q586; obtain rfl : ad583 = ad586 := (by injection e586); replace hx586_0 := (HB.out.cell (World.block_lt_of_cell? w _ hx586_0)).trans hx586_0; replace hx586_1 := (HB.out.cell (World.block_lt_of_cell? w _ hx586_1)).trans hx586_1; replace hx586_2 := (HB.out.cell (World.block_lt_of_cell? w _ hx586_2)).trans hx586_2; replace p586 := eq_true p586; replace q586 := eq_true q586) | ((with_reducible refine gate_dst (N := 36) rfl ?_); refine lt_ (Kd.int .i64) 3 (N := 36) (([t585, x11_1] : List Int)) [.int .i64 t585, .int .i64 x11_1] ri_ ?_; intro v588 w16 ho17 hb hg_ hnew_; clear hg_ hnew_; replace ho17 := rN_ Ny587 ho17; replace HO_5 := M_ (Kd.S_elder' (by (with_reducible repeat (first | apply Kd.S_alloc | apply Kd.S_drewN | apply Kd.S_drew)); exact HO_5.out) (Kd.R_base ho17) hb); have HO589 := M_ (Kd.R_lower ho17 (bZ_ HB)); replace BK584 := M_ (kb_ BK584 hb); replace HB := M_ (bS_ HB hb); clear hb ho17; obtain ⟨Ao19, co19, eo19⟩ := Kd.R_slice HO589.out; subst eo19) | ((with_reducible refine gate_builtin (b := .append) (xs := #[.tmp 33, .tmp 37]) rfl ?_); at_builtin; refine Kd.S_append (Kd.slice 3 (Kd.int .i64)) (w0 := w) w.heap.size rfl (.tmp 33) (.tmp 37) 73 42 (.slice none 0 0) 24 rfl Try.underlying73 info42 rfl (by decide) (by omega) u5 x5_1 y587 [.slice Ao19 y587.length co19] (fun _ => True) (fun k_ => some k_ = (.slice Ao19 y587.length co19 : Value).ownBlock) rfl rfl ?aP (fun k_ hk_ => ((rm_ (ok' := fun k_ => ((fun _ => True)) k_ ∧ some k_ ≠ (u5 : Value).ownBlock) (Kd.R_apart' (HO589.out) (Kd.S_typed HO_5.out) (by decide)) (fun k_ hk => ⟨trivial, hk.2⟩))).1 k_ hk_.symm) ?aF ?aO ?aB ?aS ?aL ?_; (case aP => exact Kd.M_row (rm_ (Kd.R_tight rfl (rm_ (ok' := fun k_ => ((fun _ => True)) k_ ∧ some k_ ≠ (u5 : Value).ownBlock) (Kd.R_apart' (HO589.out) (Kd.S_typed HO_5.out) (by decide)) (fun k_ hk => ⟨trivial, hk.2⟩))) (fun _ h_ => h_))); (case aB => exact (bU_ HB)); (case aF => exact (fun _ _ => trivial)); (case aO => exact (by (with_reducible repeat (first | apply Kd.S_alloc | apply Kd.S_drewN | apply Kd.S_drew)); exact Kd.S_mono HO_5.out (fun k_ hk => ⟨trivial, fun e_ => hk.2 e_⟩))); (case aS => exact (bZ_ HB)); (case aL => have := LMc11.out; omega); intro v591 w18 ho hb hg hat; rw [← Ny590.out] at ho; replace BK584 := M_ (kg_ BK584 hg (Kd.S_ne HO_5.out BK584.out (by decide))); replace HB := M_ (hb); have HO592 := M_ (ho); clear HO_5 HO589; clear ho hb hg hat))
           repeat (go_quiet (first | ((with_reducible refine gate_dst (N := 7) rfl ?_); refine bx_ (N := 7) (cs := #[.int .i64 0, .int .i64 0, .int .i64 0]) (t := 80) ?_; intro gb584 hg w12 hbox hb; replace HO_5 := M_ (Kd.S_below (by (with_reducible repeat (first | apply Kd.S_alloc | apply Kd.S_drewN | apply Kd.S_drew)); exact HO_5.out) hb); have BK584 := M_ (hbox); have GW584 := M_ (gw_ HB hg); have GE584 := M_ (gw_ HB hg); replace HB := M_ (bS_ HB hb); clear hb hbox hg; obtain ⟨hcz13_0, hcz13_1, hcz13_2, hfz13_0, hfz13_1, hfz13_2⟩ := bq3_ BK584) | (go_at_call 131; (with_reducible refine (spec_inLast.calls k1 _ _ l0 x11_1 t585 _ ?side1 ?side2 A6.out).mono ?_); (case side1 => exact Kd.C_below HR0.out (bU_ HB)); (case side2 => exact HC0.out); rintro e w14 ⟨rfl, hb⟩; replace HO_5 := M_ (Kd.S_below (by (with_reducible repeat (first | apply Kd.S_alloc | apply Kd.S_drewN | apply Kd.S_drew)); exact (Kd.S_mono (Kd.S_far (p := ⟨gb584, 2, none⟩) (Kd.S_far (p := ⟨gb584, 1, none⟩) (Kd.S_far (p := ⟨gb584, 0, none⟩) (Kd.S_types HO_5.out BK584.out (by decide)) (fun _ hk => hk.2) (.int .i64 ((rd_T80 l0 x11_1).f0))) (fun _ hk => hk.2) (.int .i64 ((rd_T80 l0 x11_1).f1))) (fun _ hk => hk.2) (.int .i64 ((rd_T80 l0 x11_1).f2))) (fun _ h_ => h_.1))) hb); replace BK584 := M_ (blk_below (g := gb584) (o := .cells #[.int .i64 ((rd_T80 l0 x11_1).f0), .int .i64 ((rd_T80 l0 x11_1).f1), .int .i64 ((rd_T80 l0 x11_1).f2)] 80 (0, 0)) (by (with_reducible repeat (first | refine kn_ ?_ _ | refine kd_ ?_ | refine ka_ ?_ _)); refine blk_put (cs := #[.int .i64 ((rd_T80 l0 x11_1).f0), .int .i64 ((rd_T80 l0 x11_1).f1), .int .i64 0]) ?_ 2 _ rfl; (with_reducible repeat (first | refine kn_ ?_ _ | refine kd_ ?_ | refine ka_ ?_ _)); refine blk_put (cs := #[.int .i64 ((rd_T80 l0 x11_1).f0), .int .i64 0, .int .i64 0]) ?_ 1 _ rfl; (with_reducible repeat (first | refine kn_ ?_ _ | refine kd_ ?_ | refine ka_ ?_ _)); refine blk_put (cs := #[.int .i64 0, .int .i64 0, .int .i64 0]) ?_ 0 _ rfl; (with_reducible repeat (first | refine kn_ ?_ _ | refine kd_ ?_ | refine ka_ ?_ _)); exact BK584.out) hb); replace HB := M_ (bS_ HB hb); clear hb; obtain ⟨hcz15_0, hcz15_1, hcz15_2, hfz15_0, hfz15_1, hfz15_2⟩ := bq3_ BK584; have p586 : 0 ≤ (t585 : Int) := dT_; have q586 : t585 < (l0.length : Int) := dT_; obtain ⟨ad586, e586, hx586_0, hx586_1, hx586_2⟩ := at_T80 HR0.out t585 p586 q586; obtain rfl : ad583 = ad586 := (by injection e586); replace hx586_0 := (HB.out.cell (World.block_lt_of_cell? w _ hx586_0)).trans hx586_0; replace hx586_1 := (HB.out.cell (World.block_lt_of_cell? w _ hx586_1)).trans hx586_1; replace hx586_2 := (HB.out.cell (World.block_lt_of_cell? w _ hx586_2)).trans hx586_2; replace p586 := eq_true p586; replace q586 := eq_true q586) | ((with_reducible refine gate_dst (N := 36) rfl ?_); refine lt_ (Kd.int .i64) 3 (N := 36) (([t585, x11_1] : List Int)) [.int .i64 t585, .int .i64 x11_1] ri_ ?_; intro v588 w16 ho17 hb hg_ hnew_; clear hg_ hnew_; replace ho17 := rN_ Ny587 ho17; replace HO_5 := M_ (Kd.S_elder' (by (with_reducible repeat (first | apply Kd.S_alloc | apply Kd.S_drewN | apply Kd.S_drew)); exact HO_5.out) (Kd.R_base ho17) hb); have HO589 := M_ (Kd.R_lower ho17 (bZ_ HB)); replace BK584 := M_ (kb_ BK584 hb); replace HB := M_ (bS_ HB hb); clear hb ho17; obtain ⟨Ao19, co19, eo19⟩ := Kd.R_slice HO589.out; subst eo19) | ((with_reducible refine gate_builtin (b := .append) (xs := #[.tmp 33, .tmp 37]) rfl ?_); at_builtin; refine Kd.S_append (Kd.slice 3 (Kd.int .i64)) (w0 := w) w.heap.size rfl (.tmp 33) (.tmp 37) 73 42 (.slice none 0 0) 24 rfl Try.underlying73 info42 rfl (by decide) (by omega) u5 x5_1 y587 [.slice Ao19 y587.length co19] (fun _ => True) (fun k_ => some k_ = (.slice Ao19 y587.length co19 : Value).ownBlock) rfl rfl ?aP (fun k_ hk_ => ((rm_ (ok' := fun k_ => ((fun _ => True)) k_ ∧ some k_ ≠ (u5 : Value).ownBlock) (Kd.R_apart' (HO589.out) (Kd.S_typed HO_5.out) (by decide)) (fun k_ hk => ⟨trivial, hk.2⟩))).1 k_ hk_.symm) ?aF ?aO ?aB ?aS ?aL ?_; (case aP => exact Kd.M_row (rm_ (Kd.R_tight rfl (rm_ (ok' := fun k_ => ((fun _ => True)) k_ ∧ some k_ ≠ (u5 : Value).ownBlock) (Kd.R_apart' (HO589.out) (Kd.S_typed HO_5.out) (by decide)) (fun k_ hk => ⟨trivial, hk.2⟩))) (fun _ h_ => h_))); (case aB => exact (bU_ HB)); (case aF => exact (fun _ _ => trivial)); (case aO => exact (by (with_reducible repeat (first | apply Kd.S_alloc | apply Kd.S_drewN | apply Kd.S_drew)); exact Kd.S_mono HO_5.out (fun k_ hk => ⟨trivial, fun e_ => hk.2 e_⟩))); (case aS => exact (bZ_ HB)); (case aL => have := LMc11.out; omega); intro v591 w18 ho hb hg hat; rw [← Ny590.out] at ho; replace BK584 := M_ (kg_ BK584 hg (Kd.S_ne HO_5.out BK584.out (by decide))); replace HB := M_ (hb); have HO592 := M_ (ho); clear HO_5 HO589; clear ho hb hg hat)); try go_wp2_with (first | ((with_reducible refine gate_dst (N := 7) rfl ?_); refine bx_ (N := 7) (cs := #[.int .i64 0, .int .i64 0, .int .i64 0]) (t := 80) ?_; intro gb584 hg w12 hbox hb; replace HO_5 := M_ (Kd.S_below (by (with_reducible repeat (first | apply Kd.S_alloc | apply Kd.S_drewN | apply Kd.S_drew)); exact HO_5.out) hb); have BK584 := M_ (hbox); have GW584 := M_ (gw_ HB hg); have GE584 := M_ (gw_ HB hg); replace HB := M_ (bS_ HB hb); clear hb hbox hg; obtain ⟨hcz13_0, hcz13_1, hcz13_2, hfz13_0, hfz13_1, hfz13_2⟩ := bq3_ BK584) | (go_at_call 131; (with_reducible refine (spec_inLast.calls k1 _ _ l0 x11_1 t585 _ ?side1 ?side2 A6.out).mono ?_); (case side1 => exact Kd.C_below HR0.out (bU_ HB)); (case side2 => exact HC0.out); rintro e w14 ⟨rfl, hb⟩; replace HO_5 := M_ (Kd.S_below (by (with_reducible repeat (first | apply Kd.S_alloc | apply Kd.S_drewN | apply Kd.S_drew)); exact (Kd.S_mono (Kd.S_far (p := ⟨gb584, 2, none⟩) (Kd.S_far (p := ⟨gb584, 1, none⟩) (Kd.S_far (p := ⟨gb584, 0, none⟩) (Kd.S_types HO_5.out BK584.out (by decide)) (fun _ hk => hk.2) (.int .i64 ((rd_T80 l0 x11_1).f0))) (fun _ hk => hk.2) (.int .i64 ((rd_T80 l0 x11_1).f1))) (fun _ hk => hk.2) (.int .i64 ((rd_T80 l0 x11_1).f2))) (fun _ h_ => h_.1))) hb); replace BK584 := M_ (blk_below (g := gb584) (o := .cells #[.int .i64 ((rd_T80 l0 x11_1).f0), .int .i64 ((rd_T80 l0 x11_1).f1), .int .i64 ((rd_T80 l0 x11_1).f2)] 80 (0, 0)) (by (with_reducible repeat (first | refine kn_ ?_ _ | refine kd_ ?_ | refine ka_ ?_ _)); refine blk_put (cs := #[.int .i64 ((rd_T80 l0 x11_1).f0), .int .i64 ((rd_T80 l0 x11_1).f1), .int .i64 0]) ?_ 2 _ rfl; (with_reducible repeat (first | refine kn_ ?_ _ | refine kd_ ?_ | refine ka_ ?_ _)); refine blk_put (cs := #[.int .i64 ((rd_T80 l0 x11_1).f0), .int .i64 0, .int .i64 0]) ?_ 1 _ rfl; (with_reducible repeat (first | refine kn_ ?_ _ | refine kd_ ?_ | refine ka_ ?_ _)); refine blk_put (cs := #[.int .i64 0, .int .i64 0, .int .i64 0]) ?_ 0 _ rfl; (with_reducible repeat (first | refine kn_ ?_ _ | refine kd_ ?_ | refine ka_ ?_ _)); exact BK584.out) hb); replace HB := M_ (bS_ HB hb); clear hb; obtain ⟨hcz15_0, hcz15_1, hcz15_2, hfz15_0, hfz15_1, hfz15_2⟩ := bq3_ BK584; have p586 : 0 ≤ (t585 : Int) := dT_; have q586 : t585 < (l0.length : Int) := dT_; obtain ⟨ad586, e586, hx586_0, hx586_1, hx586_2⟩ := at_T80 HR0.out t585 p586 q586; obtain rfl : ad583 = ad586 := (by injection e586); replace hx586_0 := (HB.out.cell (World.block_lt_of_cell? w _ hx586_0)).trans hx586_0; replace hx586_1 := (HB.out.cell (World.block_lt_of_cell? w _ hx586_1)).trans hx586_1; replace hx586_2 := (HB.out.cell (World.block_lt_of_cell? w _ hx586_2)).trans hx586_2; replace p586 := eq_true p586; replace q586 := eq_true q586) | ((with_reducible refine gate_dst (N := 36) rfl ?_); refine lt_ (Kd.int .i64) 3 (N := 36) (([t585, x11_1] : List Int)) [.int .i64 t585, .int .i64 x11_1] ri_ ?_; intro v588 w16 ho17 hb hg_ hnew_; clear hg_ hnew_; replace ho17 := rN_ Ny587 ho17; replace HO_5 := M_ (Kd.S_elder' (by (with_reducible repeat (first | apply Kd.S_alloc | apply Kd.S_drewN | apply Kd.S_drew)); exact HO_5.out) (Kd.R_base ho17) hb); have HO589 := M_ (Kd.R_lower ho17 (bZ_ HB)); replace BK584 := M_ (kb_ BK584 hb); replace HB := M_ (bS_ HB hb); clear hb ho17; obtain ⟨Ao19, co19, eo19⟩ := Kd.R_slice HO589.out; subst eo19) | ((with_reducible refine gate_builtin (b := .append) (xs := #[.tmp 33, .tmp 37]) rfl ?_); at_builtin; refine Kd.S_append (Kd.slice 3 (Kd.int .i64)) (w0 := w) w.heap.size rfl (.tmp 33) (.tmp 37) 73 42 (.slice none 0 0) 24 rfl Try.underlying73 info42 rfl (by decide) (by omega) u5 x5_1 y587 [.slice Ao19 y587.length co19] (fun _ => True) (fun k_ => some k_ = (.slice Ao19 y587.length co19 : Value).ownBlock) rfl rfl ?aP (fun k_ hk_ => ((rm_ (ok' := fun k_ => ((fun _ => True)) k_ ∧ some k_ ≠ (u5 : Value).ownBlock) (Kd.R_apart' (HO589.out) (Kd.S_typed HO_5.out) (by decide)) (fun k_ hk => ⟨trivial, hk.2⟩))).1 k_ hk_.symm) ?aF ?aO ?aB ?aS ?aL ?_; (case aP => exact Kd.M_row (rm_ (Kd.R_tight rfl (rm_ (ok' := fun k_ => ((fun _ => True)) k_ ∧ some k_ ≠ (u5 : Value).ownBlock) (Kd.R_apart' (HO589.out) (Kd.S_typed HO_5.out) (by decide)) (fun k_ hk => ⟨trivial, hk.2⟩))) (fun _ h_ => h_))); (case aB => exact (bU_ HB)); (case aF => exact (fun _ _ => trivial)); (case aO => exact (by (with_reducible repeat (first | apply Kd.S_alloc | apply Kd.S_drewN | apply Kd.S_drew)); exact Kd.S_mono HO_5.out (fun k_ hk => ⟨trivial, fun e_ => hk.2 e_⟩))); (case aS => exact (bZ_ HB)); (case aL => have := LMc11.out; omega); intro v591 w18 ho hb hg hat; rw [← Ny590.out] at ho; replace BK584 := M_ (kg_ BK584 hg (Kd.S_ne HO_5.out BK584.out (by decide))); replace HB := M_ (hb); have HO592 := M_ (ho); clear HO_5 HO589; clear ho hb hg hat)))
           go_roundg k1
           case measure => have := HK1.out; omega
           case rel => exact ⟨(y590), (wrap64 (x11_1 + 1)), eD_, H', ⟨by have := HK1.out; omega⟩, ⟨by (with_reducible repeat (first | apply Kd.S_alloc | apply Kd.S_drewN | apply Kd.S_drew)); exact HO592.out⟩, ⟨bU_ HB⟩⟩
          ·rw [if_neg c11] at H
           exact absurd H (by simp)
         ·rw [if_neg c10] at H
          have c10b0 : decide ((wrap64 (((rd_T80 l0 x11_1).f1) - ((rd_T80 l0 t585).f1))) < a1) = false := decide_eq_false c10
          clear c10
          have H' := M_ H
          clear H
          have p583 : 0 ≤ (x11_1 : Int) := dT_
          have q583 : x11_1 < (l0.length : Int) := dT_
          obtain ⟨ad583, e583, hx583_0, hx583_1, hx583_2⟩ := at_T80 HR0.out x11_1 p583 q583;cases e583;replace hx583_0 := (HB.out.cell (World.block_lt_of_cell? w _ hx583_0)).trans hx583_0;replace hx583_1 := (HB.out.cell (World.block_lt_of_cell? w _ hx583_1)).trans hx583_1;replace hx583_2 := (HB.out.cell (World.block_lt_of_cell? w _ hx583_2)).trans hx583_2;replace p583 := eq_true p583;replace q583 := eq_true q583
          go_wp2_with (first | ((with_reducible refine gate_dst (N := 7) rfl ?_); refine bx_ (N := 7) (cs := #[.int .i64 0, .int .i64 0, .int .i64 0]) (t := 80) ?_; intro gb584 hg w20 hbox hb; replace HO_5 := M_ (Kd.S_below (by (with_reducible repeat (first | apply Kd.S_alloc | apply Kd.S_drewN | apply Kd.S_drew)); exact HO_5.out) hb); have BK584 := M_ (hbox); have GW584 := M_ (gw_ HB hg); have GE584 := M_ (gw_ HB hg); replace HB := M_ (bS_ HB hb); clear hb hbox hg; obtain ⟨hcz21_0, hcz21_1, hcz21_2, hfz21_0, hfz21_1, hfz21_2⟩ := bq3_ BK584) | (go_at_call 131; (with_reducible refine (spec_inLast.calls k1 _ _ l0 x11_1 t585 _ ?side1 ?side2 A6.out).mono ?_); (case side1 => exact Kd.C_below HR0.out (bU_ HB)); (case side2 => exact HC0.out); rintro e w22 ⟨rfl, hb⟩; replace HO_5 := M_ (Kd.S_below (by (with_reducible repeat (first | apply Kd.S_alloc | apply Kd.S_drewN | apply Kd.S_drew)); exact (Kd.S_mono (Kd.S_far (p := ⟨gb584, 2, none⟩) (Kd.S_far (p := ⟨gb584, 1, none⟩) (Kd.S_far (p := ⟨gb584, 0, none⟩) (Kd.S_types HO_5.out BK584.out (by decide)) (fun _ hk => hk.2) (.int .i64 ((rd_T80 l0 x11_1).f0))) (fun _ hk => hk.2) (.int .i64 ((rd_T80 l0 x11_1).f1))) (fun _ hk => hk.2) (.int .i64 ((rd_T80 l0 x11_1).f2))) (fun _ h_ => h_.1))) hb); replace BK584 := M_ (blk_below (g := gb584) (o := .cells #[.int .i64 ((rd_T80 l0 x11_1).f0), .int .i64 ((rd_T80 l0 x11_1).f1), .int .i64 ((rd_T80 l0 x11_1).f2)] 80 (0, 0)) (by (with_reducible repeat (first | refine kn_ ?_ _ | refine kd_ ?_ | refine ka_ ?_ _)); refine blk_put (cs := #[.int .i64 ((rd_T80 l0 x11_1).f0), .int .i64 ((rd_T80 l0 x11_1).f1), .int .i64 0]) ?_ 2 _ rfl; (with_reducible repeat (first | refine kn_ ?_ _ | refine kd_ ?_ | refine ka_ ?_ _)); refine blk_put (cs := #[.int .i64 ((rd_T80 l0 x11_1).f0), .int .i64 0, .int .i64 0]) ?_ 1 _ rfl; (with_reducible repeat (first | refine kn_ ?_ _ | refine kd_ ?_ | refine ka_ ?_ _)); refine blk_put (cs := #[.int .i64 0, .int .i64 0, .int .i64 0]) ?_ 0 _ rfl; (with_reducible repeat (first | refine kn_ ?_ _ | refine kd_ ?_ | refine ka_ ?_ _)); exact BK584.out) hb); replace HB := M_ (bS_ HB hb); clear hb; obtain ⟨hcz23_0, hcz23_1, hcz23_2, hfz23_0, hfz23_1, hfz23_2⟩ := bq3_ BK584; have p586 : 0 ≤ (t585 : Int) := dT_; have q586 : t585 < (l0.length : Int) := dT_; obtain ⟨ad586, e586, hx586_0, hx586_1, hx586_2⟩ := at_T80 HR0.out t585 p586 q586; obtain rfl : ad583 = ad586 := (by injection e586); replace hx586_0 := (HB.out.cell (World.block_lt_of_cell? w _ hx586_0)).trans hx586_0; replace hx586_1 := (HB.out.cell (World.block_lt_of_cell? w _ hx586_1)).trans hx586_1; replace hx586_2 := (HB.out.cell (World.block_lt_of_cell? w _ hx586_2)).trans hx586_2; replace p586 := eq_true p586; replace q586 := eq_true q586))
          repeat (go_quiet (first | ((with_reducible refine gate_dst (N := 7) rfl ?_); refine bx_ (N := 7) (cs := #[.int .i64 0, .int .i64 0, .int .i64 0]) (t := 80) ?_; intro gb584 hg w20 hbox hb; replace HO_5 := M_ (Kd.S_below (by (with_reducible repeat (first | apply Kd.S_alloc | apply Kd.S_drewN | apply Kd.S_drew)); exact HO_5.out) hb); have BK584 := M_ (hbox); have GW584 := M_ (gw_ HB hg); have GE584 := M_ (gw_ HB hg); replace HB := M_ (bS_ HB hb); clear hb hbox hg; obtain ⟨hcz21_0, hcz21_1, hcz21_2, hfz21_0, hfz21_1, hfz21_2⟩ := bq3_ BK584) | (go_at_call 131; (with_reducible refine (spec_inLast.calls k1 _ _ l0 x11_1 t585 _ ?side1 ?side2 A6.out).mono ?_); (case side1 => exact Kd.C_below HR0.out (bU_ HB)); (case side2 => exact HC0.out); rintro e w22 ⟨rfl, hb⟩; replace HO_5 := M_ (Kd.S_below (by (with_reducible repeat (first | apply Kd.S_alloc | apply Kd.S_drewN | apply Kd.S_drew)); exact (Kd.S_mono (Kd.S_far (p := ⟨gb584, 2, none⟩) (Kd.S_far (p := ⟨gb584, 1, none⟩) (Kd.S_far (p := ⟨gb584, 0, none⟩) (Kd.S_types HO_5.out BK584.out (by decide)) (fun _ hk => hk.2) (.int .i64 ((rd_T80 l0 x11_1).f0))) (fun _ hk => hk.2) (.int .i64 ((rd_T80 l0 x11_1).f1))) (fun _ hk => hk.2) (.int .i64 ((rd_T80 l0 x11_1).f2))) (fun _ h_ => h_.1))) hb); replace BK584 := M_ (blk_below (g := gb584) (o := .cells #[.int .i64 ((rd_T80 l0 x11_1).f0), .int .i64 ((rd_T80 l0 x11_1).f1), .int .i64 ((rd_T80 l0 x11_1).f2)] 80 (0, 0)) (by (with_reducible repeat (first | refine kn_ ?_ _ | refine kd_ ?_ | refine ka_ ?_ _)); refine blk_put (cs := #[.int .i64 ((rd_T80 l0 x11_1).f0), .int .i64 ((rd_T80 l0 x11_1).f1), .int .i64 0]) ?_ 2 _ rfl; (with_reducible repeat (first | refine kn_ ?_ _ | refine kd_ ?_ | refine ka_ ?_ _)); refine blk_put (cs := #[.int .i64 ((rd_T80 l0 x11_1).f0), .int .i64 0, .int .i64 0]) ?_ 1 _ rfl; (with_reducible repeat (first | refine kn_ ?_ _ | refine kd_ ?_ | refine ka_ ?_ _)); refine blk_put (cs := #[.int .i64 0, .int .i64 0, .int .i64 0]) ?_ 0 _ rfl; (with_reducible repeat (first | refine kn_ ?_ _ | refine kd_ ?_ | refine ka_ ?_ _)); exact BK584.out) hb); replace HB := M_ (bS_ HB hb); clear hb; obtain ⟨hcz23_0, hcz23_1, hcz23_2, hfz23_0, hfz23_1, hfz23_2⟩ := bq3_ BK584; have p586 : 0 ≤ (t585 : Int) := dT_; have q586 : t585 < (l0.length : Int) := dT_; obtain ⟨ad586, e586, hx586_0, hx586_1, hx586_2⟩ := at_T80 HR0.out t585 p586 q586; obtain rfl : ad583 = ad586 := (by injection e586); replace hx586_0 := (HB.out.cell (World.block_lt_of_cell? w _ hx586_0)).trans hx586_0; replace hx586_1 := (HB.out.cell (World.block_lt_of_cell? w _ hx586_1)).trans hx586_1; replace hx586_2 := (HB.out.cell (World.block_lt_of_cell? w _ hx586_2)).trans hx586_2; replace p586 := eq_true p586; replace q586 := eq_true q586)); try go_wp2_with (first | ((with_reducible refine gate_dst (N := 7) rfl ?_); refine bx_ (N := 7) (cs := #[.int .i64 0, .int .i64 0, .int .i64 0]) (t := 80) ?_; intro gb584 hg w20 hbox hb; replace HO_5 := M_ (Kd.S_below (by (with_reducible repeat (first | apply Kd.S_alloc | apply Kd.S_drewN | apply Kd.S_drew)); exact HO_5.out) hb); have BK584 := M_ (hbox); have GW584 := M_ (gw_ HB hg); have GE584 := M_ (gw_ HB hg); replace HB := M_ (bS_ HB hb); clear hb hbox hg; obtain ⟨hcz21_0, hcz21_1, hcz21_2, hfz21_0, hfz21_1, hfz21_2⟩ := bq3_ BK584) | (go_at_call 131; (with_reducible refine (spec_inLast.calls k1 _ _ l0 x11_1 t585 _ ?side1 ?side2 A6.out).mono ?_); (case side1 => exact Kd.C_below HR0.out (bU_ HB)); (case side2 => exact HC0.out); rintro e w22 ⟨rfl, hb⟩; replace HO_5 := M_ (Kd.S_below (by (with_reducible repeat (first | apply Kd.S_alloc | apply Kd.S_drewN | apply Kd.S_drew)); exact (Kd.S_mono (Kd.S_far (p := ⟨gb584, 2, none⟩) (Kd.S_far (p := ⟨gb584, 1, none⟩) (Kd.S_far (p := ⟨gb584, 0, none⟩) (Kd.S_types HO_5.out BK584.out (by decide)) (fun _ hk => hk.2) (.int .i64 ((rd_T80 l0 x11_1).f0))) (fun _ hk => hk.2) (.int .i64 ((rd_T80 l0 x11_1).f1))) (fun _ hk => hk.2) (.int .i64 ((rd_T80 l0 x11_1).f2))) (fun _ h_ => h_.1))) hb); replace BK584 := M_ (blk_below (g := gb584) (o := .cells #[.int .i64 ((rd_T80 l0 x11_1).f0), .int .i64 ((rd_T80 l0 x11_1).f1), .int .i64 ((rd_T80 l0 x11_1).f2)] 80 (0, 0)) (by (with_reducible repeat (first | refine kn_ ?_ _ | refine kd_ ?_ | refine ka_ ?_ _)); refine blk_put (cs := #[.int .i64 ((rd_T80 l0 x11_1).f0), .int .i64 ((rd_T80 l0 x11_1).f1), .int .i64 0]) ?_ 2 _ rfl; (with_reducible repeat (first | refine kn_ ?_ _ | refine kd_ ?_ | refine ka_ ?_ _)); refine blk_put (cs := #[.int .i64 ((rd_T80 l0 x11_1).f0), .int .i64 0, .int .i64 0]) ?_ 1 _ rfl; (with_reducible repeat (first | refine kn_ ?_ _ | refine kd_ ?_ | refine ka_ ?_ _)); refine blk_put (cs := #[.int .i64 0, .int .i64 0, .int .i64 0]) ?_ 0 _ rfl; (with_reducible repeat (first | refine kn_ ?_ _ | refine kd_ ?_ | refine ka_ ?_ _)); exact BK584.out) hb); replace HB := M_ (bS_ HB hb); clear hb; obtain ⟨hcz23_0, hcz23_1, hcz23_2, hfz23_0, hfz23_1, hfz23_2⟩ := bq3_ BK584; have p586 : 0 ≤ (t585 : Int) := dT_; have q586 : t585 < (l0.length : Int) := dT_; obtain ⟨ad586, e586, hx586_0, hx586_1, hx586_2⟩ := at_T80 HR0.out t585 p586 q586; obtain rfl : ad583 = ad586 := (by injection e586); replace hx586_0 := (HB.out.cell (World.block_lt_of_cell? w _ hx586_0)).trans hx586_0; replace hx586_1 := (HB.out.cell (World.block_lt_of_cell? w _ hx586_1)).trans hx586_1; replace hx586_2 := (HB.out.cell (World.block_lt_of_cell? w _ hx586_2)).trans hx586_2; replace p586 := eq_true p586; replace q586 := eq_true q586)))
          go_roundg k1
          case measure => have := HK1.out; omega
          case rel => exact ⟨(x5_1), (wrap64 (x11_1 + 1)), eD_, H', ⟨by have := HK1.out; omega⟩, ⟨by (with_reducible repeat (first | apply Kd.S_alloc | apply Kd.S_drewN | apply Kd.S_drew)); exact HO_5.out⟩, ⟨bU_ HB⟩⟩
        ·rw [if_neg c9] at H
         exact absurd H (by simp)
       ·rw [if_neg c8] at H
        exact absurd H (by simp)
      ·rw [if_neg c7] at H
       have c7b0 : decide (0 ≤ t585) = false := decide_eq_false c7
       clear c7
       have H' := M_ H
       clear H
       have p583 : 0 ≤ (x11_1 : Int) := dT_
       have q583 : x11_1 < (l0.length : Int) := dT_
       obtain ⟨ad583, e583, hx583_0, hx583_1, hx583_2⟩ := at_T80 HR0.out x11_1 p583 q583;cases e583;replace hx583_0 := (HB.out.cell (World.block_lt_of_cell? w _ hx583_0)).trans hx583_0;replace hx583_1 := (HB.out.cell (World.block_lt_of_cell? w _ hx583_1)).trans hx583_1;replace hx583_2 := (HB.out.cell (World.block_lt_of_cell? w _ hx583_2)).trans hx583_2;replace p583 := eq_true p583;replace q583 := eq_true q583
       go_wp2_with (first | ((with_reducible refine gate_dst (N := 7) rfl ?_); refine bx_ (N := 7) (cs := #[.int .i64 0, .int .i64 0, .int .i64 0]) (t := 80) ?_; intro gb584 hg w24 hbox hb; replace HO_5 := M_ (Kd.S_below (by (with_reducible repeat (first | apply Kd.S_alloc | apply Kd.S_drewN | apply Kd.S_drew)); exact HO_5.out) hb); have BK584 := M_ (hbox); have GW584 := M_ (gw_ HB hg); have GE584 := M_ (gw_ HB hg); replace HB := M_ (bS_ HB hb); clear hb hbox hg; obtain ⟨hcz25_0, hcz25_1, hcz25_2, hfz25_0, hfz25_1, hfz25_2⟩ := bq3_ BK584) | (go_at_call 131; (with_reducible refine (spec_inLast.calls k1 _ _ l0 x11_1 t585 _ ?side1 ?side2 A6.out).mono ?_); (case side1 => exact Kd.C_below HR0.out (bU_ HB)); (case side2 => exact HC0.out); rintro e w26 ⟨rfl, hb⟩; replace HO_5 := M_ (Kd.S_below (by (with_reducible repeat (first | apply Kd.S_alloc | apply Kd.S_drewN | apply Kd.S_drew)); exact (Kd.S_mono (Kd.S_far (p := ⟨gb584, 2, none⟩) (Kd.S_far (p := ⟨gb584, 1, none⟩) (Kd.S_far (p := ⟨gb584, 0, none⟩) (Kd.S_types HO_5.out BK584.out (by decide)) (fun _ hk => hk.2) (.int .i64 ((rd_T80 l0 x11_1).f0))) (fun _ hk => hk.2) (.int .i64 ((rd_T80 l0 x11_1).f1))) (fun _ hk => hk.2) (.int .i64 ((rd_T80 l0 x11_1).f2))) (fun _ h_ => h_.1))) hb); replace BK584 := M_ (blk_below (g := gb584) (o := .cells #[.int .i64 ((rd_T80 l0 x11_1).f0), .int .i64 ((rd_T80 l0 x11_1).f1), .int .i64 ((rd_T80 l0 x11_1).f2)] 80 (0, 0)) (by (with_reducible repeat (first | refine kn_ ?_ _ | refine kd_ ?_ | refine ka_ ?_ _)); refine blk_put (cs := #[.int .i64 ((rd_T80 l0 x11_1).f0), .int .i64 ((rd_T80 l0 x11_1).f1), .int .i64 0]) ?_ 2 _ rfl; (with_reducible repeat (first | refine kn_ ?_ _ | refine kd_ ?_ | refine ka_ ?_ _)); refine blk_put (cs := #[.int .i64 ((rd_T80 l0 x11_1).f0), .int .i64 0, .int .i64 0]) ?_ 1 _ rfl; (with_reducible repeat (first | refine kn_ ?_ _ | refine kd_ ?_ | refine ka_ ?_ _)); refine blk_put (cs := #[.int .i64 0, .int .i64 0, .int .i64 0]) ?_ 0 _ rfl; (with_reducible repeat (first | refine kn_ ?_ _ | refine kd_ ?_ | refine ka_ ?_ _)); exact BK584.out) hb); replace HB := M_ (bS_ HB hb); clear hb))
       repeat (go_quiet (first | ((with_reducible refine gate_dst (N := 7) rfl ?_); refine bx_ (N := 7) (cs := #[.int .i64 0, .int .i64 0, .int .i64 0]) (t := 80) ?_; intro gb584 hg w24 hbox hb; replace HO_5 := M_ (Kd.S_below (by (with_reducible repeat (first | apply Kd.S_alloc | apply Kd.S_drewN | apply Kd.S_drew)); exact HO_5.out) hb); have BK584 := M_ (hbox); have GW584 := M_ (gw_ HB hg); have GE584 := M_ (gw_ HB hg); replace HB := M_ (bS_ HB hb); clear hb hbox hg; obtain ⟨hcz25_0, hcz25_1, hcz25_2, hfz25_0, hfz25_1, hfz25_2⟩ := bq3_ BK584) | (go_at_call 131; (with_reducible refine (spec_inLast.calls k1 _ _ l0 x11_1 t585 _ ?side1 ?side2 A6.out).mono ?_); (case side1 => exact Kd.C_below HR0.out (bU_ HB)); (case side2 => exact HC0.out); rintro e w26 ⟨rfl, hb⟩; replace HO_5 := M_ (Kd.S_below (by (with_reducible repeat (first | apply Kd.S_alloc | apply Kd.S_drewN | apply Kd.S_drew)); exact (Kd.S_mono (Kd.S_far (p := ⟨gb584, 2, none⟩) (Kd.S_far (p := ⟨gb584, 1, none⟩) (Kd.S_far (p := ⟨gb584, 0, none⟩) (Kd.S_types HO_5.out BK584.out (by decide)) (fun _ hk => hk.2) (.int .i64 ((rd_T80 l0 x11_1).f0))) (fun _ hk => hk.2) (.int .i64 ((rd_T80 l0 x11_1).f1))) (fun _ hk => hk.2) (.int .i64 ((rd_T80 l0 x11_1).f2))) (fun _ h_ => h_.1))) hb); replace BK584 := M_ (blk_below (g := gb584) (o := .cells #[.int .i64 ((rd_T80 l0 x11_1).f0), .int .i64 ((rd_T80 l0 x11_1).f1), .int .i64 ((rd_T80 l0 x11_1).f2)] 80 (0, 0)) (by (with_reducible repeat (first | refine kn_ ?_ _ | refine kd_ ?_ | refine ka_ ?_ _)); refine blk_put (cs := #[.int .i64 ((rd_T80 l0 x11_1).f0), .int .i64 ((rd_T80 l0 x11_1).f1), .int .i64 0]) ?_ 2 _ rfl; (with_reducible repeat (first | refine kn_ ?_ _ | refine kd_ ?_ | refine ka_ ?_ _)); refine blk_put (cs := #[.int .i64 ((rd_T80 l0 x11_1).f0), .int .i64 0, .int .i64 0]) ?_ 1 _ rfl; (with_reducible repeat (first | refine kn_ ?_ _ | refine kd_ ?_ | refine ka_ ?_ _)); refine blk_put (cs := #[.int .i64 0, .int .i64 0, .int .i64 0]) ?_ 0 _ rfl; (with_reducible repeat (first | refine kn_ ?_ _ | refine kd_ ?_ | refine ka_ ?_ _)); exact BK584.out) hb); replace HB := M_ (bS_ HB hb); clear hb)); try go_wp2_with (first | ((with_reducible refine gate_dst (N := 7) rfl ?_); refine bx_ (N := 7) (cs := #[.int .i64 0, .int .i64 0, .int .i64 0]) (t := 80) ?_; intro gb584 hg w24 hbox hb; replace HO_5 := M_ (Kd.S_below (by (with_reducible repeat (first | apply Kd.S_alloc | apply Kd.S_drewN | apply Kd.S_drew)); exact HO_5.out) hb); have BK584 := M_ (hbox); have GW584 := M_ (gw_ HB hg); have GE584 := M_ (gw_ HB hg); replace HB := M_ (bS_ HB hb); clear hb hbox hg; obtain ⟨hcz25_0, hcz25_1, hcz25_2, hfz25_0, hfz25_1, hfz25_2⟩ := bq3_ BK584) | (go_at_call 131; (with_reducible refine (spec_inLast.calls k1 _ _ l0 x11_1 t585 _ ?side1 ?side2 A6.out).mono ?_); (case side1 => exact Kd.C_below HR0.out (bU_ HB)); (case side2 => exact HC0.out); rintro e w26 ⟨rfl, hb⟩; replace HO_5 := M_ (Kd.S_below (by (with_reducible repeat (first | apply Kd.S_alloc | apply Kd.S_drewN | apply Kd.S_drew)); exact (Kd.S_mono (Kd.S_far (p := ⟨gb584, 2, none⟩) (Kd.S_far (p := ⟨gb584, 1, none⟩) (Kd.S_far (p := ⟨gb584, 0, none⟩) (Kd.S_types HO_5.out BK584.out (by decide)) (fun _ hk => hk.2) (.int .i64 ((rd_T80 l0 x11_1).f0))) (fun _ hk => hk.2) (.int .i64 ((rd_T80 l0 x11_1).f1))) (fun _ hk => hk.2) (.int .i64 ((rd_T80 l0 x11_1).f2))) (fun _ h_ => h_.1))) hb); replace BK584 := M_ (blk_below (g := gb584) (o := .cells #[.int .i64 ((rd_T80 l0 x11_1).f0), .int .i64 ((rd_T80 l0 x11_1).f1), .int .i64 ((rd_T80 l0 x11_1).f2)] 80 (0, 0)) (by (with_reducible repeat (first | refine kn_ ?_ _ | refine kd_ ?_ | refine ka_ ?_ _)); refine blk_put (cs := #[.int .i64 ((rd_T80 l0 x11_1).f0), .int .i64 ((rd_T80 l0 x11_1).f1), .int .i64 0]) ?_ 2 _ rfl; (with_reducible repeat (first | refine kn_ ?_ _ | refine kd_ ?_ | refine ka_ ?_ _)); refine blk_put (cs := #[.int .i64 ((rd_T80 l0 x11_1).f0), .int .i64 0, .int .i64 0]) ?_ 1 _ rfl; (with_reducible repeat (first | refine kn_ ?_ _ | refine kd_ ?_ | refine ka_ ?_ _)); refine blk_put (cs := #[.int .i64 0, .int .i64 0, .int .i64 0]) ?_ 0 _ rfl; (with_reducible repeat (first | refine kn_ ?_ _ | refine kd_ ?_ | refine ka_ ?_ _)); exact BK584.out) hb); replace HB := M_ (bS_ HB hb); clear hb)))
       go_roundg k1
       case measure => have := HK1.out; omega
       case rel => exact ⟨(x5_1), (wrap64 (x11_1 + 1)), eD_, H', ⟨by have := HK1.out; omega⟩, ⟨by (with_reducible repeat (first | apply Kd.S_alloc | apply Kd.S_drewN | apply Kd.S_drew)); exact HO_5.out⟩, ⟨bU_ HB⟩⟩
     ·rw [if_neg c5] at H
      exact absurd H (by simp)
    ·rw [if_neg c4] at H
     exact absurd H (by simp)
   ·rw [if_neg c3] at H
    have c3b0 : decide (x11_1 < (l0.length : Int)) = false := decide_eq_false c3
    clear c3;obtain rfl := Option.some.inj H
    go_wp2
    repeat (go_quiet (fail); try go_wp2)
    go_ret
    exact ⟨_, eR_, by (with_reducible repeat (first | apply Kd.S_alloc | apply Kd.S_drewN | apply Kd.S_drew)); exact HO_5.out, bU_ HB⟩
def spec_inPlays.f (k : Nat) (l0_0 : List Int) (a0_1 : Int) (l1 : List (S80)) : Option (Bool) := (spec_inMissing.f k l0_0 a0_1 l1).bind fun t594 => (if (t594.length : Int) = 0 then ((spec_inFast.f k l1 a0_1).bind fun t597 => (some ((t597.length : Int) == 0))) else (some false))
theorem spec_inPlays.mono : ∀ a0 a1 a2 k, LeO (spec_inPlays.f k a0 a1 a2) (spec_inPlays.f (k + 1) a0 a1 a2) := by
 intro a0 a1 a2 k
 unfold spec_inPlays.f
 have m0_ := @spec_inFast.mono;have m1_ := @spec_inMissing.mono;exact mo_
set_option maxHeartbeats 8000000 in
set_option maxRecDepth 100000 in
theorem spec_inPlays.calls (k : Nat) (A0_0 : Option Addr) (c0_0 : Nat) (l0_0 : List Int) (a0_1 : Int) (A1 : Option Addr) (c1 : Nat) (l1 : List (S80)) (r : Bool) (w : World) (hr0_0 : Kd.C (Kd.int .i64) w A0_0 l0_0.length l0_0) (hc0_0 : l0_0.length ≤ c0_0) (hr1 : Kd.C k80 w A1 l1.length l1) (hc1 : l1.length ≤ c1) (h : spec_inPlays.f k l0_0 a0_1 l1 = some r) :
  Calls Try.prog 111 #[.agg #[.slice A0_0 l0_0.length c0_0, .int .i64 a0_1], .slice A1 l1.length c1] w fun e w' => e = .returned (.bool r) ∧ Below w.heap.size w w' := by
 have hu58 := Try.underlying58;have HR0_0 := M_ hr0_0;have HC0_0 := M_ hc0_0;clear hr0_0 hc0_0;have HR1 := M_ hr1;have HC1 := M_ hc1;clear hr1 hc1;have HB := M_ (Below.refl w.heap.size w)
 have H : ((spec_inMissing.f k l0_0 a0_1 l1).bind fun t594 => (if (t594.length : Int) = 0 then ((spec_inFast.f k l1 a0_1).bind fun t597 => (some ((t597.length : Int) == 0))) else (some false))) = some r := h
 clear h;replace H := Option.bind_eq_some_iff.mp H;obtain ⟨t594, A30, H⟩ := H;(try dsimp only at H);have A3 := M_ A30;clear A30
 by_cases c4 : (t594.length : Int) = 0
 ·rw [if_pos c4] at H
  have c4b0 : ((t594.length : Int) == 0) = true := beq_iff_eq.mpr c4
  have c4b1 : ((t594.length : Int) != 0) = false := bne_eq_false_iff_eq.mpr c4
  clear c4;replace H := Option.bind_eq_some_iff.mp H;obtain ⟨t597, A50, H⟩ := H;replace H : (some ((t597.length : Int) == 0)) = some r := H;have A5 := M_ A50;clear A50;obtain rfl := Option.some.inj H
  go_enter Try.func111, Try.ntmps111
  go_wp2_with (first | ((with_reducible refine gate_dst (N := 2) rfl ?_); (try (refine gate_guard (by rfl) ?_; dsimp only)); refine bx_ (N := 2) (cs := #[.slice A0_0 l0_0.length c0_0, .int .i64 a0_1]) (t := 58) ?_; intro gb593 hg w6 hbox hb; have BK593 := M_ (hbox); have GW593 := M_ (gw_ HB hg); have GE593 := M_ (gw_ HB hg); replace HB := M_ (bS_ HB hb); clear hb hbox hg; obtain ⟨hcz7_0, hcz7_1, hfz7_0, hfz7_1⟩ := bq2_ BK593) | ((with_reducible refine gc_ 107 ?_); refine gM_ (some 7) Try.func107 #[.agg #[.slice A0_0 l0_0.length c0_0, .int .i64 a0_1], .slice A1 l1.length c1] ?_; (with_reducible refine (spec_inMissing.calls k _ _ l0_0 a0_1 _ _ l1 t594 _ ?side1 ?side2 ?side3 ?side4 A3.out).mono ?_); (case side1 => exact cU_ (Kd.C_below HR0_0.out HB.out)); (case side2 => exact HC0_0.out); (case side3 => exact cU_ (Kd.C_below HR1.out HB.out)); (case side4 => exact HC1.out); rintro e w8 ⟨v595, rfl, ho0, hb⟩; refine ⟨_, rfl, ?_⟩; have HO596 := M_ (Kd.R_lower ho0 (bZ_ HB)); replace BK593 := M_ (kb_ BK593 hb); replace HB := M_ (bS_ HB hb); clear hb ho0; obtain ⟨Ao9, co9, eo9⟩ := Kd.R_slice HO596.out; subst eo9; obtain ⟨hcz10_0, hcz10_1, hfz10_0, hfz10_1⟩ := bq2_ BK593) | (go_at_call 113; (with_reducible refine (spec_inFast.calls k _ _ l1 a0_1 t597 _ ?side1 ?side2 A5.out).mono ?_); (case side1 => exact cU_ (Kd.C_below HR1.out HB.out)); (case side2 => exact HC1.out); rintro e w11 ⟨v598, rfl, ho0, hb⟩; have HO599 := M_ (Kd.S_lower (Kd.S_new' ho0 (rl_ HO596)) (bZ_ HB)); replace HO596 := M_ (rB_ HO596 hb); replace BK593 := M_ (kb_ BK593 hb); replace HB := M_ (bS_ HB hb); clear hb ho0; obtain ⟨Ao12, co12, eo12⟩ := Kd.S_slice HO599.out; subst eo12))
  go_ret
  exact ⟨eR_, bU_ HB⟩
 ·rw [if_neg c4] at H
  have c4b0 : ((t594.length : Int) == 0) = false := beq_eq_false_iff_ne.mpr c4
  have c4b1 : ((t594.length : Int) != 0) = true := bne_iff_ne.mpr c4
  have c4b2 : ¬ (t594 = []) := fun h_ => c4 (by rw [h_]; rfl)
  obtain rfl := Option.some.inj H
  go_enter Try.func111, Try.ntmps111
  go_wp2_with (first | ((with_reducible refine gate_dst (N := 2) rfl ?_); (try (refine gate_guard (by rfl) ?_; dsimp only)); refine bx_ (N := 2) (cs := #[.slice A0_0 l0_0.length c0_0, .int .i64 a0_1]) (t := 58) ?_; intro gb593 hg w13 hbox hb; have BK593 := M_ (hbox); have GW593 := M_ (gw_ HB hg); have GE593 := M_ (gw_ HB hg); replace HB := M_ (bS_ HB hb); clear hb hbox hg; obtain ⟨hcz14_0, hcz14_1, hfz14_0, hfz14_1⟩ := bq2_ BK593) | ((with_reducible refine gc_ 107 ?_); refine gM_ (some 7) Try.func107 #[.agg #[.slice A0_0 l0_0.length c0_0, .int .i64 a0_1], .slice A1 l1.length c1] ?_; (with_reducible refine (spec_inMissing.calls k _ _ l0_0 a0_1 _ _ l1 t594 _ ?side1 ?side2 ?side3 ?side4 A3.out).mono ?_); (case side1 => exact cU_ (Kd.C_below HR0_0.out HB.out)); (case side2 => exact HC0_0.out); (case side3 => exact cU_ (Kd.C_below HR1.out HB.out)); (case side4 => exact HC1.out); rintro e w15 ⟨v595, rfl, ho0, hb⟩; refine ⟨_, rfl, ?_⟩; have HO596 := M_ (Kd.R_lower ho0 (bZ_ HB)); replace BK593 := M_ (kb_ BK593 hb); replace HB := M_ (bS_ HB hb); clear hb ho0; obtain ⟨Ao16, co16, eo16⟩ := Kd.R_slice HO596.out; subst eo16))
  go_ret
  exact ⟨eR_, bU_ HB⟩
end Go.Proofs.Ytgeipgflhjakjaa.PFnPlayable
