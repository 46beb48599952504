-- by wip/xprint.py, over the kit's printer
import Derived.Test.YtgeipgflhjakjaaPFnPlayablex0
import Derived.Test.YtgeipgflhjakjaaPFnPlayablex1
import Derived.Test.YtgeipgflhjakjaaPFnPlayablex3
import Derived.Test.YtgeipgflhjakjaaPFnPlayablex4
import Derived.Test.YtgeipgflhjakjaaPFnPlayablex6
import Derived.Test.YtgeipgflhjakjaaPFnPlayablex7
import Derived.Test.YtgeipgflhjakjaaPFnPlayablex16
import Derived.Test.YtgeipgflhjakjaaPFnPlayablex18
namespace Go.Proofs.Ytgeipgflhjakjaa.PFnPlayable
open Go.RowKit Go.Proofs.YtgeipgflhjakjaaW.PrintWords Go.Proofs.YtgeipgflhjakjaaW.PrintLast Go.Proofs.YtgeipgflhjakjaaW.PrintMore
attribute [local go_sem] max2_int min2_int max_two min_two max_three min_three max_four min_four   -- for this text's walks alone
set_option linter.unusedVariables false
set_option linter.unusedSimpArgs false

attribute [local go_sem high] eqA80
def spec_CanPlay.f (k : Nat) (l0_0 : List Int) (a0_1 : Int) (l1 : List (S80)) : Option (Bool × Bool) := (spec_inAsked.f k l0_0 a0_1 l1).bind fun t601 => (if t601 = true then ((spec_inPlays.f k l0_0 a0_1 l1).bind fun t602 => (some (t602, true))) else (some (false, false)))
theorem spec_CanPlay.mono : ∀ a0 a1 a2 k, LeO (spec_CanPlay.f k a0 a1 a2) (spec_CanPlay.f (k + 1) a0 a1 a2) := by
 intro a0 a1 a2 k
 unfold spec_CanPlay.f
 have m0_ := @spec_inAsked.mono;have m1_ := @spec_inPlays.mono;exact mo_
set_option maxHeartbeats 8000000 in
set_option maxRecDepth 100000 in
theorem spec_CanPlay.calls (k : Nat) (A0_0 : Option Addr) (c0_0 : Nat) (l0_0 : List Int) (a0_1 : Int) (A1 : Option Addr) (c1 : Nat) (l1 : List (S80)) (r1 : Bool) (r2 : Bool) (w : World) (hr0_0 : Kd.C (Kd.int .i64) w A0_0 l0_0.length l0_0) (hc0_0 : l0_0.length ≤ c0_0) (hr1 : Kd.C k80 w A1 l1.length l1) (hc1 : l1.length ≤ c1) (h : spec_CanPlay.f k l0_0 a0_1 l1 = some (r1, r2)) :
  Calls Try.prog 54 #[.agg #[.slice A0_0 l0_0.length c0_0, .int .i64 a0_1], .slice A1 l1.length c1] w fun e w' => e = .returned (.tuple #[.bool r1, .bool r2]) ∧ Below w.heap.size w w' := by
 have hu58 := Try.underlying58;have HR0_0 := M_ hr0_0;have HC0_0 := M_ hc0_0;clear hr0_0 hc0_0;have HR1 := M_ hr1;have HC1 := M_ hc1;clear hr1 hc1;have HB := M_ (Below.refl w.heap.size w)
 have H : ((spec_inAsked.f k l0_0 a0_1 l1).bind fun t601 => (if t601 = true then ((spec_inPlays.f k l0_0 a0_1 l1).bind fun t602 => (some (t602, true))) else (some (false, false)))) = some (r1, r2) := h
 clear h;replace H := Option.bind_eq_some_iff.mp H;obtain ⟨t601, A30, H⟩ := H;(try dsimp only at H);have A3 := M_ A30;clear A30
 by_cases c4 : t601 = true
 ·subst c4
  rw [if_pos rfl] at H
  replace H := Option.bind_eq_some_iff.mp H;obtain ⟨t602, A50, H⟩ := H;replace H : (some (t602, true)) = some (r1, r2) := H;have A5 := M_ A50;clear A50;simp only [Option.some.injEq, Prod.mk.injEq] at H;obtain ⟨rfl, rfl⟩ := H
  go_enter Try.func54, Try.ntmps54
  go_wp2_with (first | ((with_reducible refine gate_dst (N := 2) rfl ?_); refine bx_ (N := 2) (cs := #[.slice A0_0 l0_0.length c0_0, .int .i64 a0_1]) (t := 58) ?_; intro gb600 hg w6 hbox hb; have BK600 := M_ (hbox); have GW600 := M_ (gw_ HB hg); have GE600 := M_ (gw_ HB hg); replace HB := M_ (bS_ HB hb); clear hb hbox hg; obtain ⟨hcz7_0, hcz7_1, hfz7_0, hfz7_1⟩ := bq2_ BK600) | ((with_reducible refine gc_ 106 ?_); refine gM_ (some 8) Try.func106 #[.agg #[.slice A0_0 l0_0.length c0_0, .int .i64 a0_1], .slice A1 l1.length c1] ?_; (with_reducible refine (spec_inAsked.calls k _ _ l0_0 a0_1 _ _ l1 true _ ?side1 ?side2 ?side3 ?side4 A3.out).mono ?_); (case side1 => exact cU_ (Kd.C_below HR0_0.out HB.out)); (case side2 => exact HC0_0.out); (case side3 => exact cU_ (Kd.C_below HR1.out HB.out)); (case side4 => exact HC1.out); rintro e w8 ⟨rfl, hb⟩; refine ⟨_, rfl, ?_⟩; replace BK600 := M_ (kb_ BK600 hb); replace HB := M_ (bS_ HB hb); clear hb; obtain ⟨hcz9_0, hcz9_1, hfz9_0, hfz9_1⟩ := bq2_ BK600) | ((with_reducible refine gc_ 111 ?_); refine gM_ (some 12) Try.func111 #[.agg #[.slice A0_0 l0_0.length c0_0, .int .i64 a0_1], .slice A1 l1.length c1] ?_; (with_reducible refine (spec_inPlays.calls k _ _ l0_0 a0_1 _ _ l1 t602 _ ?side1 ?side2 ?side3 ?side4 A5.out).mono ?_); (case side1 => exact cU_ (Kd.C_below HR0_0.out HB.out)); (case side2 => exact HC0_0.out); (case side3 => exact cU_ (Kd.C_below HR1.out HB.out)); (case side4 => exact HC1.out); rintro e w10 ⟨rfl, hb⟩; refine ⟨_, rfl, ?_⟩; replace BK600 := M_ (kb_ BK600 hb); replace HB := M_ (bS_ HB hb); clear hb))
  go_ret2
  exact ⟨eR_, bU_ HB⟩
 ·replace c4 := Bool.eq_false_iff.mpr c4
  subst c4
  rw [if_neg (show ¬ (false = true) by decide)] at H
  simp only [Option.some.injEq, Prod.mk.injEq] at H;obtain ⟨rfl, rfl⟩ := H
  go_enter Try.func54, Try.ntmps54
  go_wp2_with (first | ((with_reducible refine gate_dst (N := 2) rfl ?_); refine bx_ (N := 2) (cs := #[.slice A0_0 l0_0.length c0_0, .int .i64 a0_1]) (t := 58) ?_; intro gb600 hg w11 hbox hb; have BK600 := M_ (hbox); have GW600 := M_ (gw_ HB hg); have GE600 := M_ (gw_ HB hg); replace HB := M_ (bS_ HB hb); clear hb hbox hg; obtain ⟨hcz12_0, hcz12_1, hfz12_0, hfz12_1⟩ := bq2_ BK600) | ((with_reducible refine gc_ 106 ?_); refine gM_ (some 8) Try.func106 #[.agg #[.slice A0_0 l0_0.length c0_0, .int .i64 a0_1], .slice A1 l1.length c1] ?_; (with_reducible refine (spec_inAsked.calls k _ _ l0_0 a0_1 _ _ l1 false _ ?side1 ?side2 ?side3 ?side4 A3.out).mono ?_); (case side1 => exact cU_ (Kd.C_below HR0_0.out HB.out)); (case side2 => exact HC0_0.out); (case side3 => exact cU_ (Kd.C_below HR1.out HB.out)); (case side4 => exact HC1.out); rintro e w13 ⟨rfl, hb⟩; refine ⟨_, rfl, ?_⟩; replace BK600 := M_ (kb_ BK600 hb); replace HB := M_ (bS_ HB hb); clear hb))
  go_ret2
  exact ⟨eR_, bU_ HB⟩
def impl_FastRepeats.f (k : Nat) (l0_0 : List Int) (a0_1 : Int) (l1 : List (S80)) : Option ((List (List Int)) × Bool) := (impl_IsInstrument.f k l0_0 a0_1).bind fun t604 => (if t604 = true then ((impl_IsScore.f k l1).bind fun t605 => (if t605 = true then ((impl_fastRepeats.f k l1 a0_1).bind fun t606 => (some (t606, true))) else (some (([] : List (List Int)), false)))) else (some (([] : List (List Int)), false)))
theorem impl_FastRepeats.mono : ∀ a0 a1 a2 k, LeO (impl_FastRepeats.f k a0 a1 a2) (impl_FastRepeats.f (k + 1) a0 a1 a2) := by
 intro a0 a1 a2 k
 unfold impl_FastRepeats.f
 have m0_ := @impl_IsInstrument.mono;have m1_ := @impl_IsScore.mono;have m2_ := @impl_fastRepeats.mono;exact mo_
set_option maxHeartbeats 8000000 in
set_option maxRecDepth 100000 in
theorem impl_FastRepeats.calls (k : Nat) (A0_0 : Option Addr) (c0_0 : Nat) (l0_0 : List Int) (a0_1 : Int) (A1 : Option Addr) (c1 : Nat) (l1 : List (S80)) (r1 : List (List Int)) (r2 : Bool) (w : World) (hr0_0 : Kd.C (Kd.int .i64) w A0_0 l0_0.length l0_0) (hc0_0 : l0_0.length ≤ c0_0) (hr1 : Kd.C k80 w A1 l1.length l1) (hc1 : l1.length ≤ c1) (h : impl_FastRepeats.f k l0_0 a0_1 l1 = some (r1, r2)) :
  Calls Try.prog 55 #[.agg #[.slice A0_0 l0_0.length c0_0, .int .i64 a0_1], .slice A1 l1.length c1] w fun e w' => ∃ v0_ : Value, e = .returned (.tuple #[v0_, .bool r2]) ∧ Kd.S (Kd.slice 3 (Kd.int .i64)) 42 w' w.heap.size (fun _ => True) v0_ r1 ∧ Below w.heap.size w w' := by
 have hu58 := Try.underlying58;have HR0_0 := M_ hr0_0;have HC0_0 := M_ hc0_0;clear hr0_0 hc0_0;have HR1 := M_ hr1;have HC1 := M_ hc1;clear hr1 hc1;have HB := M_ (Below.refl w.heap.size w)
 have H : ((impl_IsInstrument.f k l0_0 a0_1).bind fun t604 => (if t604 = true then ((impl_IsScore.f k l1).bind fun t605 => (if t605 = true then ((impl_fastRepeats.f k l1 a0_1).bind fun t606 => (some (t606, true))) else (some (([] : List (List Int)), false)))) else (some (([] : List (List Int)), false)))) = some (r1, r2) := h
 clear h;replace H := Option.bind_eq_some_iff.mp H;obtain ⟨t604, A30, H⟩ := H;(try dsimp only at H);have A3 := M_ A30;clear A30
 by_cases c4 : t604 = true
 ·subst c4
  rw [if_pos rfl] at H
  replace H := Option.bind_eq_some_iff.mp H;obtain ⟨t605, A50, H⟩ := H;(try dsimp only at H);have A5 := M_ A50;clear A50
  by_cases c6 : t605 = true
  ·subst c6
   rw [if_pos rfl] at H
   replace H := Option.bind_eq_some_iff.mp H;obtain ⟨t606, A70, H⟩ := H;replace H : (some (t606, true)) = some (r1, r2) := H;have A7 := M_ A70;clear A70;simp only [Option.some.injEq, Prod.mk.injEq] at H;obtain ⟨rfl, rfl⟩ := H
   go_enter Try.func55, Try.ntmps55
   go_wp2_with (first | ((with_reducible refine gate_dst (N := 2) rfl ?_); refine bx_ (N := 2) (cs := #[.slice A0_0 l0_0.length c0_0, .int .i64 a0_1]) (t := 58) ?_; intro gb603 hg w8 hbox hb; have BK603 := M_ (hbox); have GW603 := M_ (gw_ HB hg); have GE603 := M_ (gw_ HB hg); replace HB := M_ (bS_ HB hb); clear hb hbox hg; obtain ⟨hcz9_0, hcz9_1, hfz9_0, hfz9_1⟩ := bq2_ BK603) | ((with_reducible refine gc_ 101 ?_); refine gM_ (some 7) Try.func101 #[.agg #[.slice A0_0 l0_0.length c0_0, .int .i64 a0_1]] ?_; (with_reducible refine (impl_IsInstrument.calls k _ _ l0_0 a0_1 true _ ?side1 ?side2 A3.out).mono ?_); (case side1 => exact cU_ (Kd.C_below HR0_0.out HB.out)); (case side2 => exact HC0_0.out); rintro e w10 ⟨rfl, hb⟩; refine ⟨_, rfl, ?_⟩; replace BK603 := M_ (kb_ BK603 hb); replace HB := M_ (bS_ HB hb); clear hb) | (go_at_call 90; (with_reducible refine (impl_IsScore.calls k _ _ l1 true _ ?side1 ?side2 A5.out).mono ?_); (case side1 => exact cU_ (Kd.C_below HR1.out HB.out)); (case side2 => exact HC1.out); rintro e w11 ⟨rfl, hb⟩; replace BK603 := M_ (kb_ BK603 hb); replace HB := M_ (bS_ HB hb); clear hb; obtain ⟨hcz12_0, hcz12_1, hfz12_0, hfz12_1⟩ := bq2_ BK603) | ((with_reducible refine gc_ 112 ?_); refine gM_ (some 17) Try.func112 #[.slice A1 l1.length c1, .int .i64 a0_1] ?_; (with_reducible refine (impl_fastRepeats.calls k _ _ l1 a0_1 t606 _ ?side1 ?side2 A7.out).mono ?_); (case side1 => exact cU_ (Kd.C_below HR1.out HB.out)); (case side2 => exact HC1.out); rintro e w13 ⟨v607, rfl, ho0, hb⟩; refine ⟨_, rfl, ?_⟩; have HO608 := M_ (Kd.S_lower ho0 (bZ_ HB)); replace BK603 := M_ (kb_ BK603 hb); replace HB := M_ (bS_ HB hb); clear hb ho0))
   go_ret2
   exact ⟨_, eR_, by (with_reducible repeat (first | apply Kd.S_alloc | apply Kd.S_drewN | apply Kd.S_drew)); exact HO608.out, bU_ HB⟩
  ·replace c6 := Bool.eq_false_iff.mpr c6
   subst c6
   rw [if_neg (show ¬ (false = true) by decide)] at H
   simp only [Option.some.injEq, Prod.mk.injEq] at H;obtain ⟨rfl, rfl⟩ := H
   go_enter Try.func55, Try.ntmps55
   go_wp2_with (first | ((with_reducible refine gate_dst (N := 2) rfl ?_); refine bx_ (N := 2) (cs := #[.slice A0_0 l0_0.length c0_0, .int .i64 a0_1]) (t := 58) ?_; intro gb603 hg w14 hbox hb; have BK603 := M_ (hbox); have GW603 := M_ (gw_ HB hg); have GE603 := M_ (gw_ HB hg); replace HB := M_ (bS_ HB hb); clear hb hbox hg; obtain ⟨hcz15_0, hcz15_1, hfz15_0, hfz15_1⟩ := bq2_ BK603) | ((with_reducible refine gc_ 101 ?_); refine gM_ (some 7) Try.func101 #[.agg #[.slice A0_0 l0_0.length c0_0, .int .i64 a0_1]] ?_; (with_reducible refine (impl_IsInstrument.calls k _ _ l0_0 a0_1 true _ ?side1 ?side2 A3.out).mono ?_); (case side1 => exact cU_ (Kd.C_below HR0_0.out HB.out)); (case side2 => exact HC0_0.out); rintro e w16 ⟨rfl, hb⟩; refine ⟨_, rfl, ?_⟩; replace BK603 := M_ (kb_ BK603 hb); replace HB := M_ (bS_ HB hb); clear hb) | (go_at_call 90; (with_reducible refine (impl_IsScore.calls k _ _ l1 false _ ?side1 ?side2 A5.out).mono ?_); (case side1 => exact cU_ (Kd.C_below HR1.out HB.out)); (case side2 => exact HC1.out); rintro e w17 ⟨rfl, hb⟩; replace BK603 := M_ (kb_ BK603 hb); replace HB := M_ (bS_ HB hb); clear hb))
   go_ret2
   exact ⟨_, eR_, by first | exact Kd.S_nil _ _ _ _ _ | exact Kd.N_nil _ _ _ _ _ | exact Kd.V_nil _ _ _ _ _ | exact Kd.Q_nil _ _ _ _ _ | exact Kd.R_nil _ _ _ _ _, bU_ HB⟩
 ·replace c4 := Bool.eq_false_iff.mpr c4
  subst c4
  rw [if_neg (show ¬ (false = true) by decide)] at H
  simp only [Option.some.injEq, Prod.mk.injEq] at H;obtain ⟨rfl, rfl⟩ := H
  go_enter Try.func55, Try.ntmps55
  go_wp2_with (first | ((with_reducible refine gate_dst (N := 2) rfl ?_); refine bx_ (N := 2) (cs := #[.slice A0_0 l0_0.length c0_0, .int .i64 a0_1]) (t := 58) ?_; intro gb603 hg w18 hbox hb; have BK603 := M_ (hbox); have GW603 := M_ (gw_ HB hg); have GE603 := M_ (gw_ HB hg); replace HB := M_ (bS_ HB hb); clear hb hbox hg; obtain ⟨hcz19_0, hcz19_1, hfz19_0, hfz19_1⟩ := bq2_ BK603) | ((with_reducible refine gc_ 101 ?_); refine gM_ (some 7) Try.func101 #[.agg #[.slice A0_0 l0_0.length c0_0, .int .i64 a0_1]] ?_; (with_reducible refine (impl_IsInstrument.calls k _ _ l0_0 a0_1 false _ ?side1 ?side2 A3.out).mono ?_); (case side1 => exact cU_ (Kd.C_below HR0_0.out HB.out)); (case side2 => exact HC0_0.out); rintro e w20 ⟨rfl, hb⟩; refine ⟨_, rfl, ?_⟩; replace BK603 := M_ (kb_ BK603 hb); replace HB := M_ (bS_ HB hb); clear hb))
  go_ret2
  exact ⟨_, eR_, by first | exact Kd.S_nil _ _ _ _ _ | exact Kd.N_nil _ _ _ _ _ | exact Kd.V_nil _ _ _ _ _ | exact Kd.Q_nil _ _ _ _ _ | exact Kd.R_nil _ _ _ _ _, bU_ HB⟩
def spec_FastRepeats.f (k : Nat) (l0_0 : List Int) (a0_1 : Int) (l1 : List (S80)) : Option ((List (List Int)) × Bool) := (spec_inAsked.f k l0_0 a0_1 l1).bind fun t610 => (if t610 = true then ((spec_inFast.f k l1 a0_1).bind fun t611 => (some (t611, true))) else (some (([] : List (List Int)), false)))
theorem spec_FastRepeats.mono : ∀ a0 a1 a2 k, LeO (spec_FastRepeats.f k a0 a1 a2) (spec_FastRepeats.f (k + 1) a0 a1 a2) := by
 intro a0 a1 a2 k
 unfold spec_FastRepeats.f
 have m0_ := @spec_inAsked.mono;have m1_ := @spec_inFast.mono;exact mo_
set_option maxHeartbeats 8000000 in
set_option maxRecDepth 100000 in
theorem spec_FastRepeats.calls (k : Nat) (A0_0 : Option Addr) (c0_0 : Nat) (l0_0 : List Int) (a0_1 : Int) (A1 : Option Addr) (c1 : Nat) (l1 : List (S80)) (r1 : List (List Int)) (r2 : Bool) (w : World) (hr0_0 : Kd.C (Kd.int .i64) w A0_0 l0_0.length l0_0) (hc0_0 : l0_0.length ≤ c0_0) (hr1 : Kd.C k80 w A1 l1.length l1) (hc1 : l1.length ≤ c1) (h : spec_FastRepeats.f k l0_0 a0_1 l1 = some (r1, r2)) :
  Calls Try.prog 56 #[.agg #[.slice A0_0 l0_0.length c0_0, .int .i64 a0_1], .slice A1 l1.length c1] w fun e w' => ∃ v0_ : Value, e = .returned (.tuple #[v0_, .bool r2]) ∧ Kd.S (Kd.slice 3 (Kd.int .i64)) 42 w' w.heap.size (fun _ => True) v0_ r1 ∧ Below w.heap.size w w' := by
 have hu58 := Try.underlying58;have HR0_0 := M_ hr0_0;have HC0_0 := M_ hc0_0;clear hr0_0 hc0_0;have HR1 := M_ hr1;have HC1 := M_ hc1;clear hr1 hc1;have HB := M_ (Below.refl w.heap.size w)
 have H : ((spec_inAsked.f k l0_0 a0_1 l1).bind fun t610 => (if t610 = true then ((spec_inFast.f k l1 a0_1).bind fun t611 => (some (t611, true))) else (some (([] : List (List Int)), false)))) = some (r1, r2) := h
 clear h;replace H := Option.bind_eq_some_iff.mp H;obtain ⟨t610, A30, H⟩ := H;(try dsimp only at H);have A3 := M_ A30;clear A30
 by_cases c4 : t610 = true
 ·subst c4
  rw [if_pos rfl] at H
  replace H := Option.bind_eq_some_iff.mp H;obtain ⟨t611, A50, H⟩ := H;replace H : (some (t611, true)) = some (r1, r2) := H;have A5 := M_ A50;clear A50;simp only [Option.some.injEq, Prod.mk.injEq] at H;obtain ⟨rfl, rfl⟩ := H
  go_enter Try.func56, Try.ntmps56
  go_wp2_with (first | ((with_reducible refine gate_dst (N := 2) rfl ?_); refine bx_ (N := 2) (cs := #[.slice A0_0 l0_0.length c0_0, .int .i64 a0_1]) (t := 58) ?_; intro gb609 hg w6 hbox hb; have BK609 := M_ (hbox); have GW609 := M_ (gw_ HB hg); have GE609 := M_ (gw_ HB hg); replace HB := M_ (bS_ HB hb); clear hb hbox hg; obtain ⟨hcz7_0, hcz7_1, hfz7_0, hfz7_1⟩ := bq2_ BK609) | ((with_reducible refine gc_ 106 ?_); refine gM_ (some 8) Try.func106 #[.agg #[.slice A0_0 l0_0.length c0_0, .int .i64 a0_1], .slice A1 l1.length c1] ?_; (with_reducible refine (spec_inAsked.calls k _ _ l0_0 a0_1 _ _ l1 true _ ?side1 ?side2 ?side3 ?side4 A3.out).mono ?_); (case side1 => exact cU_ (Kd.C_below HR0_0.out HB.out)); (case side2 => exact HC0_0.out); (case side3 => exact cU_ (Kd.C_below HR1.out HB.out)); (case side4 => exact HC1.out); rintro e w8 ⟨rfl, hb⟩; refine ⟨_, rfl, ?_⟩; replace BK609 := M_ (kb_ BK609 hb); replace HB := M_ (bS_ HB hb); clear hb; obtain ⟨hcz9_0, hcz9_1, hfz9_0, hfz9_1⟩ := bq2_ BK609) | ((with_reducible refine gc_ 113 ?_); refine gM_ (some 13) Try.func113 #[.slice A1 l1.length c1, .int .i64 a0_1] ?_; (with_reducible refine (spec_inFast.calls k _ _ l1 a0_1 t611 _ ?side1 ?side2 A5.out).mono ?_); (case side1 => exact cU_ (Kd.C_below HR1.out HB.out)); (case side2 => exact HC1.out); rintro e w10 ⟨v612, rfl, ho0, hb⟩; refine ⟨_, rfl, ?_⟩; have HO613 := M_ (Kd.S_lower ho0 (bZ_ HB)); replace BK609 := M_ (kb_ BK609 hb); replace HB := M_ (bS_ HB hb); clear hb ho0))
  go_ret2
  exact ⟨_, eR_, by (with_reducible repeat (first | apply Kd.S_alloc | apply Kd.S_drewN | apply Kd.S_drew)); exact HO613.out, bU_ HB⟩
 ·replace c4 := Bool.eq_false_iff.mpr c4
  subst c4
  rw [if_neg (show ¬ (false = true) by decide)] at H
  simp only [Option.some.injEq, Prod.mk.injEq] at H;obtain ⟨rfl, rfl⟩ := H
  go_enter Try.func56, Try.ntmps56
  go_wp2_with (first | ((with_reducible refine gate_dst (N := 2) rfl ?_); refine bx_ (N := 2) (cs := #[.slice A0_0 l0_0.length c0_0, .int .i64 a0_1]) (t := 58) ?_; intro gb609 hg w11 hbox hb; have BK609 := M_ (hbox); have GW609 := M_ (gw_ HB hg); have GE609 := M_ (gw_ HB hg); replace HB := M_ (bS_ HB hb); clear hb hbox hg; obtain ⟨hcz12_0, hcz12_1, hfz12_0, hfz12_1⟩ := bq2_ BK609) | ((with_reducible refine gc_ 106 ?_); refine gM_ (some 8) Try.func106 #[.agg #[.slice A0_0 l0_0.length c0_0, .int .i64 a0_1], .slice A1 l1.length c1] ?_; (with_reducible refine (spec_inAsked.calls k _ _ l0_0 a0_1 _ _ l1 false _ ?side1 ?side2 ?side3 ?side4 A3.out).mono ?_); (case side1 => exact cU_ (Kd.C_below HR0_0.out HB.out)); (case side2 => exact HC0_0.out); (case side3 => exact cU_ (Kd.C_below HR1.out HB.out)); (case side4 => exact HC1.out); rintro e w13 ⟨rfl, hb⟩; refine ⟨_, rfl, ?_⟩; replace BK609 := M_ (kb_ BK609 hb); replace HB := M_ (bS_ HB hb); clear hb))
  go_ret2
  exact ⟨_, eR_, by first | exact Kd.S_nil _ _ _ _ _ | exact Kd.N_nil _ _ _ _ _ | exact Kd.V_nil _ _ _ _ _ | exact Kd.Q_nil _ _ _ _ _ | exact Kd.R_nil _ _ _ _ _, bU_ HB⟩
def spec_DrawGreatestRepeat.f (k : Nat) (l0 : List Int) : Option ((List (S80))) := (spec_DrawMissingPitches.f k l0).bind fun bt614 => (some bt614.2.2)
theorem spec_DrawGreatestRepeat.mono : ∀ a0 k, LeO (spec_DrawGreatestRepeat.f k a0) (spec_DrawGreatestRepeat.f (k + 1) a0) := by
 intro a0 k
 unfold spec_DrawGreatestRepeat.f
 have m0_ := @spec_DrawMissingPitches.mono;exact mo_
set_option maxHeartbeats 8000000 in
set_option maxRecDepth 100000 in
theorem spec_DrawGreatestRepeat.calls (k : Nat) (A0 : Option Addr) (c0 : Nat) (l0 : List Int) (r : List (S80)) (w : World) (hr0 : Kd.C (Kd.int .u8) w A0 l0.length l0) (hc0 : l0.length ≤ c0) (h : spec_DrawGreatestRepeat.f k l0 = some r) :
  Calls Try.prog 57 #[.slice A0 l0.length c0] w fun e w' => ∃ v0_ : Value, e = .returned (v0_) ∧ Kd.R k80 80 w' w.heap.size (fun _ => True) v0_ r ∧ Below w.heap.size w w' := by
 have hu58 := Try.underlying58;have HR0 := M_ hr0;have HC0 := M_ hc0;clear hr0 hc0;have HB := M_ (Below.refl w.heap.size w)
 have H : ((spec_DrawMissingPitches.f k l0).bind fun bt614 => (some bt614.2.2)) = some r := h
 clear h;replace H := Option.bind_eq_some_iff.mp H;obtain ⟨⟨t614, t617, t618⟩, A20, H⟩ := H;replace H : (some t618) = some r := H;have A2 := M_ A20;clear A20;obtain rfl := Option.some.inj H
 go_enter Try.func57, Try.ntmps57
 go_wp2_with (first | ((with_reducible refine gc_ 108 ?_); refine gM_ (some 7) Try.func108 #[.slice A0 l0.length c0] ?_; (with_reducible refine (spec_DrawMissingPitches.calls k _ _ l0 t614 t617 t618 _ ?side1 ?side2 A2.out).mono ?_); (case side1 => exact cU_ HR0.out); (case side2 => exact HC0.out); rintro e w3 ⟨v615, v619, rfl, ho0, ho1, hb⟩; refine ⟨_, rfl, ?_⟩; have HO616 := M_ (Kd.R_lower ho0 (bZ_ HB)); have HO620 := M_ (Kd.R_lower ho1 (bZ_ HB)); replace HB := M_ (bS_ HB hb); clear hb ho0 ho1) | ((with_reducible refine gate_dst (N := 3) rfl ?_); refine bx_ (N := 3) (cs := #[.slice none 0 0, .int .i64 0]) (t := 58) ?_; intro gb621 hg w4 hbox hb; replace HO616 := M_ (rB_ HO616 hb); replace HO620 := M_ (rB_ HO620 hb); have BK621 := M_ (hbox); have GW621 := M_ (gw_ HB hg); have GE621 := M_ (gw_ HB hg); replace HB := M_ (bS_ HB hb); clear hb hbox hg; obtain ⟨Ao5, co5, eo5⟩ := Kd.R_slice HO616.out; subst eo5; obtain ⟨hcz6_0, hcz6_1, hfz6_0, hfz6_1⟩ := bq2_ BK621))
 go_ret
 exact ⟨_, eR_, by (with_reducible repeat (first | apply ra_ | apply rn_ | apply rd_)); exact rm_ (Kd.R_far (p := ⟨gb621, 1, none⟩) (Kd.R_far (p := ⟨gb621, 0, none⟩) (rt_ HO620.out BK621.out (by decide)) (fun _ hk => hk.2) (.slice Ao5 t614.length co5)) (fun _ hk => hk.2) (.int .i64 t617)) (fun _ hk => trivial), bU_ HB⟩
def impl_GreatestRepeat.l0 : Nat → List (S80) → Int → Option (Int × Bool)
 | 0, _, _ => none
 | k + 1, x0, x4 => if x4 > 1 then ((impl_fastRepeats.f k x0 x4).bind fun t623 => (if (t623.length : Int) = 0 then (some (x4, true)) else (impl_GreatestRepeat.l0 k x0 (wrap64 (x4 - 1))))) else (some (1, true))
def impl_GreatestRepeat.f (k : Nat) (l0 : List (S80)) : Option (Int × Bool) := (impl_IsScore.f k l0).bind fun t622 => (if t622 = true then (impl_GreatestRepeat.l0 k l0 20) else (some (0, false)))
theorem impl_GreatestRepeat.mono_l : ∀ k, (∀ y0 y1, LeO (impl_GreatestRepeat.l0 k y0 y1) (impl_GreatestRepeat.l0 (k + 1) y0 y1))
 | 0 => fun _ _ r h => by simp [impl_GreatestRepeat.l0] at h
 | k + 1 => by
  have ih0 := impl_GreatestRepeat.mono_l k
  ·intro y0 y1
   unfold impl_GreatestRepeat.l0
   have m0_ := @impl_IsScore.mono;have m1_ := @impl_fastRepeats.mono;exact mo_
theorem impl_GreatestRepeat.mono : ∀ a0 k, LeO (impl_GreatestRepeat.f k a0) (impl_GreatestRepeat.f (k + 1) a0) := by
 intro a0 k;have ih0 := impl_GreatestRepeat.mono_l k
 unfold impl_GreatestRepeat.f
 have m0_ := @impl_IsScore.mono;have m1_ := @impl_fastRepeats.mono;exact mo_
set_option maxHeartbeats 8000000 in
set_option maxRecDepth 100000 in
theorem impl_GreatestRepeat.calls (k : Nat) (A0 : Option Addr) (c0 : Nat) (l0 : List (S80)) (r1 : Int) (r2 : Bool) (w : World) (hr0 : Kd.C k80 w A0 l0.length l0) (hc0 : l0.length ≤ c0) (h : impl_GreatestRepeat.f k l0 = some (r1, r2)) :
  Calls Try.prog 58 #[.slice A0 l0.length c0] w fun e w' => e = .returned (.tuple #[.int .i64 r1, .bool r2]) ∧ Below w.heap.size w w' := by
 have HR0 := M_ hr0;have HC0 := M_ hc0;clear hr0 hc0;have HB := M_ (Below.refl w.heap.size w)
 have H : ((impl_IsScore.f k l0).bind fun t622 => (if t622 = true then (impl_GreatestRepeat.l0 k l0 20) else (some (0, false)))) = some (r1, r2) := h
 clear h;replace H := Option.bind_eq_some_iff.mp H;obtain ⟨t622, A20, H⟩ := H;(try dsimp only at H);have A2 := M_ A20;clear A20
 by_cases c3 : t622 = true
 focus
  subst c3
  rw [if_pos rfl] at H
  have H' := M_ H
  clear H
 rotate_left
 focus
  replace c3 := Bool.eq_false_iff.mpr c3
  subst c3
  rw [if_neg (show ¬ (false = true) by decide)] at H
  simp only [Option.some.injEq, Prod.mk.injEq] at H;obtain ⟨rfl, rfl⟩ := H
 rotate_left
 all_goals
  go_enter Try.func58, Try.ntmps58
  go_wp2_with (first | ((with_reducible refine gc_ 90 ?_); refine gM_ (some 6) Try.func90 #[.slice A0 l0.length c0] ?_; (with_reducible refine (impl_IsScore.calls k _ _ l0 _ _ ?side1 ?side2 A2.out).mono ?_); (case side1 => exact cU_ HR0.out); (case side2 => exact HC0.out); rintro e w4 ⟨rfl, hb⟩; refine ⟨_, rfl, ?_⟩; replace HB := M_ (bS_ HB hb); clear hb))
 ·go_loopg [4] k (fun kq v4 w' => ∃ (x4_1 : Int), v4 = .int .i64 x4_1 ∧ Aside0 (impl_GreatestRepeat.l0 kq l0 x4_1 = some (r1, r2)) ∧ Aside0 (kq ≤ k) ∧ Aside0 (Below w.heap.size w w'))
  case atStart => exact ⟨(20), eD_, H', ⟨Nat.le_refl _⟩, ⟨bU_ HB⟩⟩
  case round =>
   clear H';obtain ⟨x4_1, rfl, HA, HK1, HB⟩ := hrel
   cases gk with
   | zero => exact absurd HA.out (by simp [impl_GreatestRepeat.l0])
   | succ k1 =>
    have H := HA.out;clear HA;simp only [impl_GreatestRepeat.l0] at H
    by_cases c5 : x4_1 > 1
    ·rw [if_pos c5] at H
     have c5b0 : decide (1 < x4_1) = true := decide_eq_true c5
     clear c5;replace H := Option.bind_eq_some_iff.mp H;obtain ⟨t623, A60, H⟩ := H;(try dsimp only at H);have A6 := M_ A60;clear A60
     by_cases c7 : (t623.length : Int) = 0
     focus
      rw [if_pos c7] at H
      have c7b0 : ((t623.length : Int) == 0) = true := beq_iff_eq.mpr c7
      have c7b1 : ((t623.length : Int) != 0) = false := bne_eq_false_iff_eq.mpr c7
      clear c7;simp only [Option.some.injEq, Prod.mk.injEq] at H;obtain ⟨rfl, rfl⟩ := H
     rotate_left
     focus
      rw [if_neg c7] at H
      have c7b0 : ((t623.length : Int) == 0) = false := beq_eq_false_iff_ne.mpr c7
      have c7b1 : ((t623.length : Int) != 0) = true := bne_iff_ne.mpr c7
      have c7b2 : ¬ (t623 = []) := fun h_ => c7 (by rw [h_]; rfl)
      have H' := M_ H
      clear H
     rotate_left
     all_goals
      go_wp2_with (first | ((with_reducible refine gc_ 112 ?_); refine gM_ (some 14) Try.func112 #[.slice A0 l0.length c0, .int .i64 x4_1] ?_; (with_reducible refine (impl_fastRepeats.calls k1 _ _ l0 x4_1 t623 _ ?side1 ?side2 A6.out).mono ?_); (case side1 => exact cU_ (Kd.C_below HR0.out HB.out)); (case side2 => exact HC0.out); rintro e w8 ⟨v624, rfl, ho0, hb⟩; refine ⟨_, rfl, ?_⟩; have HO625 := M_ (Kd.S_lower ho0 (bZ_ HB)); replace HB := M_ (bS_ HB hb); clear hb ho0; obtain ⟨Ao9, co9, eo9⟩ := Kd.S_slice HO625.out; subst eo9))
     ·go_ret2
      exact ⟨eR_, bU_ HB⟩
     ·go_roundg k1
      case measure => have := HK1.out; omega
      case rel => exact ⟨(wrap64 (x4_1 - 1)), eD_, H', ⟨by have := HK1.out; omega⟩, ⟨bU_ HB⟩⟩
    ·rw [if_neg c5] at H
     have c5b0 : decide (1 < x4_1) = false := decide_eq_false c5
     clear c5;simp only [Option.some.injEq, Prod.mk.injEq] at H;obtain ⟨rfl, rfl⟩ := H
     go_wp2
     go_ret2
     exact ⟨eR_, bU_ HB⟩
 ·go_ret2
  exact ⟨eR_, bU_ HB⟩
def spec_GreatestRepeat.l0 : Nat → List (S80) → Int → Option (Int × Bool)
 | 0, _, _ => none
 | k + 1, x0, x4 => (spec_inFast.f k x0 x4).bind fun t627 => (if (t627.length : Int) > 0 then (spec_GreatestRepeat.l0 k x0 (wrap64 (x4 - 1))) else (some (x4, true)))
def spec_GreatestRepeat.f (k : Nat) (l0 : List (S80)) : Option (Int × Bool) := (spec_ntGood.f k l0).bind fun t626 => (if t626 = true then (spec_GreatestRepeat.l0 k l0 20) else (some (0, false)))
theorem spec_GreatestRepeat.mono_l : ∀ k, (∀ y0 y1, LeO (spec_GreatestRepeat.l0 k y0 y1) (spec_GreatestRepeat.l0 (k + 1) y0 y1))
 | 0 => fun _ _ r h => by simp [spec_GreatestRepeat.l0] at h
 | k + 1 => by
  have ih0 := spec_GreatestRepeat.mono_l k
  ·intro y0 y1
   unfold spec_GreatestRepeat.l0
   have m0_ := @spec_inFast.mono;have m1_ := @spec_ntGood.mono;exact mo_
theorem spec_GreatestRepeat.mono : ∀ a0 k, LeO (spec_GreatestRepeat.f k a0) (spec_GreatestRepeat.f (k + 1) a0) := by
 intro a0 k;have ih0 := spec_GreatestRepeat.mono_l k
 unfold spec_GreatestRepeat.f
 have m0_ := @spec_inFast.mono;have m1_ := @spec_ntGood.mono;exact mo_
set_option maxHeartbeats 8000000 in
set_option maxRecDepth 100000 in
theorem spec_GreatestRepeat.calls (k : Nat) (A0 : Option Addr) (c0 : Nat) (l0 : List (S80)) (r1 : Int) (r2 : Bool) (w : World) (hr0 : Kd.C k80 w A0 l0.length l0) (hc0 : l0.length ≤ c0) (h : spec_GreatestRepeat.f k l0 = some (r1, r2)) :
  Calls Try.prog 59 #[.slice A0 l0.length c0] w fun e w' => e = .returned (.tuple #[.int .i64 r1, .bool r2]) ∧ Below w.heap.size w w' := by
 have HR0 := M_ hr0;have HC0 := M_ hc0;clear hr0 hc0;have HB := M_ (Below.refl w.heap.size w)
 have H : ((spec_ntGood.f k l0).bind fun t626 => (if t626 = true then (spec_GreatestRepeat.l0 k l0 20) else (some (0, false)))) = some (r1, r2) := h
 clear h;replace H := Option.bind_eq_some_iff.mp H;obtain ⟨t626, A20, H⟩ := H;(try dsimp only at H);have A2 := M_ A20;clear A20
 by_cases c3 : t626 = true
 focus
  subst c3
  rw [if_pos rfl] at H
  have H' := M_ H
  clear H
 rotate_left
 focus
  replace c3 := Bool.eq_false_iff.mpr c3
  subst c3
  rw [if_neg (show ¬ (false = true) by decide)] at H
  simp only [Option.some.injEq, Prod.mk.injEq] at H;obtain ⟨rfl, rfl⟩ := H
 rotate_left
 all_goals
  go_enter Try.func59, Try.ntmps59
  go_wp2_with (first | ((with_reducible refine gc_ 87 ?_); refine gM_ (some 6) Try.func87 #[.slice A0 l0.length c0] ?_; (with_reducible refine (spec_ntGood.calls k _ _ l0 _ _ ?side1 ?side2 A2.out).mono ?_); (case side1 => exact cU_ HR0.out); (case side2 => exact HC0.out); rintro e w4 ⟨rfl, hb⟩; refine ⟨_, rfl, ?_⟩; replace HB := M_ (bS_ HB hb); clear hb))
 ·go_loopg [4] k (fun kq v4 w' => ∃ (x4_1 : Int), v4 = .int .i64 x4_1 ∧ Aside0 (spec_GreatestRepeat.l0 kq l0 x4_1 = some (r1, r2)) ∧ Aside0 (kq ≤ k) ∧ Aside0 (Below w.heap.size w w'))
  case atStart => exact ⟨(20), eD_, H', ⟨Nat.le_refl _⟩, ⟨bU_ HB⟩⟩
  case round =>
   clear H';obtain ⟨x4_1, rfl, HA, HK1, HB⟩ := hrel
   cases gk with
   | zero => exact absurd HA.out (by simp [spec_GreatestRepeat.l0])
   | succ k1 =>
    have H := HA.out;clear HA;simp only [spec_GreatestRepeat.l0] at H;replace H := Option.bind_eq_some_iff.mp H;obtain ⟨t627, A50, H⟩ := H;(try dsimp only at H);have A5 := M_ A50;clear A50
    by_cases c6 : (t627.length : Int) > 0
    focus
     rw [if_pos c6] at H
     have c6b0 : decide (0 < (t627.length : Int)) = true := decide_eq_true c6
     have c6b1 : decide (0 < t627.length) = true := decide_eq_true (by omega)
     clear c6
     have H' := M_ H
     clear H
    rotate_left
    focus
     rw [if_neg c6] at H
     have c6b0 : decide (0 < (t627.length : Int)) = false := decide_eq_false c6
     have c6b1 : decide (0 < t627.length) = false := decide_eq_false (by omega)
     clear c6;simp only [Option.some.injEq, Prod.mk.injEq] at H;obtain ⟨rfl, rfl⟩ := H
    rotate_left
    all_goals
     go_wp2_with (first | ((with_reducible refine gc_ 113 ?_); refine gM_ (some 10) Try.func113 #[.slice A0 l0.length c0, .int .i64 x4_1] ?_; (with_reducible refine (spec_inFast.calls k1 _ _ l0 x4_1 t627 _ ?side1 ?side2 A5.out).mono ?_); (case side1 => exact cU_ (Kd.C_below HR0.out HB.out)); (case side2 => exact HC0.out); rintro e w7 ⟨v628, rfl, ho0, hb⟩; refine ⟨_, rfl, ?_⟩; have HO629 := M_ (Kd.S_lower ho0 (bZ_ HB)); replace HB := M_ (bS_ HB hb); clear hb ho0; obtain ⟨Ao8, co8, eo8⟩ := Kd.S_slice HO629.out; subst eo8))
    ·go_roundg k1
     case measure => have := HK1.out; omega
     case rel => exact ⟨(wrap64 (x4_1 - 1)), eD_, H', ⟨by have := HK1.out; omega⟩, ⟨bU_ HB⟩⟩
    ·go_ret2
     exact ⟨eR_, bU_ HB⟩
 ·go_ret2
  exact ⟨eR_, bU_ HB⟩
def laws_qNotes.l0 : Nat → List (S80) → List (S80) → Int → Int → Option (Bool)
 | 0, _, _, _, _ => none
 | k + 1, x0, x1, x12, x13 => if x13 < x12 then (if 0 ≤ x13 then (if x13 < (x0.length : Int) then (if x13 < (x1.length : Int) then (if (!(((rd_T80 x0 x13).f0) == ((rd_T80 x1 x13).f0)) || (!(((rd_T80 x0 x13).f1) == ((rd_T80 x1 x13).f1)) || (!(((rd_T80 x0 x13).f2) == ((rd_T80 x1 x13).f2))))) = true then (some false) else (laws_qNotes.l0 k x0 x1 x12 (wrap64 (x13 + 1)))) else (none)) else (none)) else (none)) else (some true)
def laws_qNotes.f (k : Nat) (l0 : List (S80)) (l1 : List (S80)) : Option (Bool) := if (l0.length : Int) = (l1.length : Int) then (laws_qNotes.l0 k l0 l1 (l0.length : Int) 0) else (some false)
theorem laws_qNotes.mono_l : ∀ k, (∀ y0 y1 y2 y3, LeO (laws_qNotes.l0 k y0 y1 y2 y3) (laws_qNotes.l0 (k + 1) y0 y1 y2 y3))
 | 0 => fun _ _ _ _ r h => by simp [laws_qNotes.l0] at h
 | k + 1 => by
  have ih0 := laws_qNotes.mono_l k
  ·intro y0 y1 y2 y3
   unfold laws_qNotes.l0
   exact mo_
theorem laws_qNotes.mono : ∀ a0 a1 k, LeO (laws_qNotes.f k a0 a1) (laws_qNotes.f (k + 1) a0 a1) := by
 intro a0 a1 k;have ih0 := laws_qNotes.mono_l k
 unfold laws_qNotes.f
 exact mo_
set_option maxHeartbeats 8000000 in
set_option maxRecDepth 100000 in
theorem laws_qNotes.calls (k : Nat) (A0 : Option Addr) (c0 : Nat) (l0 : List (S80)) (A1 : Option Addr) (c1 : Nat) (l1 : List (S80)) (r : Bool) (w : World) (hr0 : Kd.C k80 w A0 l0.length l0) (hc0 : l0.length ≤ c0) (hr1 : Kd.C k80 w A1 l1.length l1) (hc1 : l1.length ≤ c1) (h : laws_qNotes.f k l0 l1 = some r) :
  Calls Try.prog 60 #[.slice A0 l0.length c0, .slice A1 l1.length c1] w fun e w' => e = .returned (.bool r) ∧ Drawn0 w w' := by
 have hu80 := Try.underlying80;have HR0 := M_ hr0;have HC0 := M_ hc0;clear hr0 hc0;have HR1 := M_ hr1;have HC1 := M_ hc1;clear hr1 hc1
 have H : (if (l0.length : Int) = (l1.length : Int) then (laws_qNotes.l0 k l0 l1 (l0.length : Int) 0) else (some false)) = some r := h
 clear h
 by_cases c3 : (l0.length : Int) = (l1.length : Int)
 ·rw [if_pos c3] at H
  have c3b0 : ((l0.length : Int) == (l1.length : Int)) = true := beq_iff_eq.mpr c3
  have c3b1 : ((l0.length : Int) != (l1.length : Int)) = false := bne_eq_false_iff_eq.mpr c3
  have c3b2 : (l0.length == l1.length) = true := by first | simpa using c3 | (simp at c3 ⊢; omega)
  clear c3
  have H' := M_ H
  clear H
  go_enter Try.func60, Try.ntmps60
  go_wp2
  repeat (go_quiet (fail); try go_wp2)
  go_loopg [13] k (fun kq v13 w' => ∃ (x13_1 : Int), v13 = .int .i64 x13_1 ∧ Aside0 (laws_qNotes.l0 kq l0 l1 (l0.length : Int) x13_1 = some r) ∧ Aside0 (kq ≤ k) ∧ Drawn0 w w')
  case atStart => exact ⟨(0), eD_, H', ⟨Nat.le_refl _⟩, by repeat (first | exact Drawn0.refl _ | apply Drawn0.step)⟩
  case round =>
   clear H';obtain ⟨x13_1, rfl, HA, HK1, ⟨m1, rfl⟩⟩ := hrel
   cases gk with
   | zero => exact absurd HA.out (by simp [laws_qNotes.l0])
   | succ k1 =>
    have H := HA.out;clear HA;simp only [laws_qNotes.l0] at H
    by_cases c4 : x13_1 < (l0.length : Int)
    ·rw [if_pos c4] at H
     have c4b0 : decide (x13_1 < (l0.length : Int)) = true := decide_eq_true c4
     clear c4
     by_cases c5 : 0 ≤ x13_1
     ·rw [if_pos c5] at H
      have c5b0 : decide (0 ≤ x13_1) = true := decide_eq_true c5
      clear c5
      by_cases c6 : x13_1 < (l0.length : Int)
      ·rw [if_pos c6] at H
       have c6b0 : decide (x13_1 < (l0.length : Int)) = true := decide_eq_true c6
       clear c6
       by_cases c7 : x13_1 < (l1.length : Int)
       ·rw [if_pos c7] at H
        have c7b0 : decide (x13_1 < (l1.length : Int)) = true := decide_eq_true c7
        clear c7
        by_cases c8 : (!(((rd_T80 l0 x13_1).f0) == ((rd_T80 l1 x13_1).f0)) || (!(((rd_T80 l0 x13_1).f1) == ((rd_T80 l1 x13_1).f1)) || (!(((rd_T80 l0 x13_1).f2) == ((rd_T80 l1 x13_1).f2))))) = true
        focus
         rw [if_pos c8] at H
         have c8b0 : (!(((rd_T80 l0 x13_1).f0) == ((rd_T80 l1 x13_1).f0)) || (!(((rd_T80 l0 x13_1).f1) == ((rd_T80 l1 x13_1).f1)) || (!(((rd_T80 l0 x13_1).f2) == ((rd_T80 l1 x13_1).f2))))) = true := c8
         clear c8;obtain rfl := Option.some.inj H
        rotate_left
        focus
         rw [if_neg c8] at H
         have c8b0 : (!(((rd_T80 l0 x13_1).f0) == ((rd_T80 l1 x13_1).f0)) || (!(((rd_T80 l0 x13_1).f1) == ((rd_T80 l1 x13_1).f1)) || (!(((rd_T80 l0 x13_1).f2) == ((rd_T80 l1 x13_1).f2))))) = false := by simpa using c8
         clear c8
         have H' := M_ H
         clear H
        rotate_left
        all_goals
         have p630 : 0 ≤ (x13_1 : Int) := dT_
         have q630 : x13_1 < (l0.length : Int) := dT_
         obtain ⟨ad630, e630, hx630_0, hx630_1, hx630_2⟩ := at_T80 HR0.out x13_1 p630 q630;cases e630;replace p630 := eq_true p630;replace q630 := eq_true q630
         have p631 : 0 ≤ (x13_1 : Int) := dT_
         have q631 : x13_1 < (l1.length : Int) := dT_
         obtain ⟨ad631, e631, hx631_0, hx631_1, hx631_2⟩ := at_T80 HR1.out x13_1 p631 q631;cases e631;replace p631 := eq_true p631;replace q631 := eq_true q631
         go_wp2
         repeat (go_quiet (fail); try go_wp2)
        ·go_ret
         exact ⟨by first | rfl | (simp; done) | (simp [*]; done), by repeat (first | exact Drawn0.refl _ | apply Drawn0.step)⟩
        ·go_roundg k1
         case measure => have := HK1.out; omega
         case rel => exact ⟨(wrap64 (x13_1 + 1)), eD_, H', ⟨by have := HK1.out; omega⟩, by repeat (first | exact Drawn0.refl _ | apply Drawn0.step)⟩
       ·rw [if_neg c7] at H
        exact absurd H (by simp)
      ·rw [if_neg c6] at H
       exact absurd H (by simp)
     ·rw [if_neg c5] at H
      exact absurd H (by simp)
    ·rw [if_neg c4] at H
     have c4b0 : decide (x13_1 < (l0.length : Int)) = false := decide_eq_false c4
     clear c4;obtain rfl := Option.some.inj H
     go_wp2
     repeat (go_quiet (fail); try go_wp2)
     go_ret
     exact ⟨by first | rfl | (simp; done) | (simp [*]; done), by repeat (first | exact Drawn0.refl _ | apply Drawn0.step)⟩
 ·rw [if_neg c3] at H
  have c3b0 : ((l0.length : Int) == (l1.length : Int)) = false := beq_eq_false_iff_ne.mpr c3
  have c3b1 : ((l0.length : Int) != (l1.length : Int)) = true := bne_iff_ne.mpr c3
  have c3b2 : (l0.length == l1.length) = false := by first | simpa using c3 | (simp at c3 ⊢; omega)
  obtain rfl := Option.some.inj H
  go_enter Try.func60, Try.ntmps60
  go_wp2
  repeat (go_quiet (fail); try go_wp2)
  go_ret
  exact ⟨by first | rfl | (simp; done) | (simp [*]; done), by repeat (first | exact Drawn0.refl _ | apply Drawn0.step)⟩
def laws_qInts.l0 : Nat → List Int → List Int → Int → Int → Option (Bool)
 | 0, _, _, _, _ => none
 | k + 1, x0, x1, x12, x13 => if x13 < x12 then (if 0 ≤ x13 then (if x13 < (x0.length : Int) then (if x13 < (x1.length : Int) then (if (rd x0 x13) = (rd x1 x13) then (laws_qInts.l0 k x0 x1 x12 (wrap64 (x13 + 1))) else (some false)) else (none)) else (none)) else (none)) else (some true)
def laws_qInts.f (k : Nat) (l0 : List Int) (l1 : List Int) : Option (Bool) := if (l0.length : Int) = (l1.length : Int) then (laws_qInts.l0 k l0 l1 (l0.length : Int) 0) else (some false)
theorem laws_qInts.mono_l : ∀ k, (∀ y0 y1 y2 y3, LeO (laws_qInts.l0 k y0 y1 y2 y3) (laws_qInts.l0 (k + 1) y0 y1 y2 y3))
 | 0 => fun _ _ _ _ r h => by simp [laws_qInts.l0] at h
 | k + 1 => by
  have ih0 := laws_qInts.mono_l k
  ·intro y0 y1 y2 y3
   unfold laws_qInts.l0
   exact mo_
theorem laws_qInts.mono : ∀ a0 a1 k, LeO (laws_qInts.f k a0 a1) (laws_qInts.f (k + 1) a0 a1) := by
 intro a0 a1 k;have ih0 := laws_qInts.mono_l k
 unfold laws_qInts.f
 exact mo_
set_option maxHeartbeats 8000000 in
set_option maxRecDepth 100000 in
theorem laws_qInts.calls (k : Nat) (A0 : Option Addr) (c0 : Nat) (l0 : List Int) (A1 : Option Addr) (c1 : Nat) (l1 : List Int) (r : Bool) (w : World) (hr0 : Kd.C (Kd.int .i64) w A0 l0.length l0) (hc0 : l0.length ≤ c0) (hr1 : Kd.C (Kd.int .i64) w A1 l1.length l1) (hc1 : l1.length ≤ c1) (h : laws_qInts.f k l0 l1 = some r) :
  Calls Try.prog 61 #[.slice A0 l0.length c0, .slice A1 l1.length c1] w fun e w' => e = .returned (.bool r) ∧ Drawn0 w w' := by
 have HR0 := M_ hr0;have HC0 := M_ hc0;clear hr0 hc0;have HR1 := M_ hr1;have HC1 := M_ hc1;clear hr1 hc1
 have H : (if (l0.length : Int) = (l1.length : Int) then (laws_qInts.l0 k l0 l1 (l0.length : Int) 0) else (some false)) = some r := h
 clear h
 by_cases c3 : (l0.length : Int) = (l1.length : Int)
 ·rw [if_pos c3] at H
  have c3b0 : ((l0.length : Int) == (l1.length : Int)) = true := beq_iff_eq.mpr c3
  have c3b1 : ((l0.length : Int) != (l1.length : Int)) = false := bne_eq_false_iff_eq.mpr c3
  have c3b2 : (l0.length == l1.length) = true := by first | simpa using c3 | (simp at c3 ⊢; omega)
  clear c3
  have H' := M_ H
  clear H
  go_enter Try.func61, Try.ntmps61
  go_wp2
  repeat (go_quiet (fail); try go_wp2)
  go_loopg [13] k (fun kq v13 w' => ∃ (x13_1 : Int), v13 = .int .i64 x13_1 ∧ Aside0 (laws_qInts.l0 kq l0 l1 (l0.length : Int) x13_1 = some r) ∧ Aside0 (kq ≤ k) ∧ Drawn0 w w')
  case atStart => exact ⟨(0), eD_, H', ⟨Nat.le_refl _⟩, by repeat (first | exact Drawn0.refl _ | apply Drawn0.step)⟩
  case round =>
   clear H';obtain ⟨x13_1, rfl, HA, HK1, ⟨m1, rfl⟩⟩ := hrel
   cases gk with
   | zero => exact absurd HA.out (by simp [laws_qInts.l0])
   | succ k1 =>
    have H := HA.out;clear HA;simp only [laws_qInts.l0] at H
    by_cases c4 : x13_1 < (l0.length : Int)
    ·rw [if_pos c4] at H
     have c4b0 : decide (x13_1 < (l0.length : Int)) = true := decide_eq_true c4
     clear c4
     by_cases c5 : 0 ≤ x13_1
     ·rw [if_pos c5] at H
      have c5b0 : decide (0 ≤ x13_1) = true := decide_eq_true c5
      clear c5
      by_cases c6 : x13_1 < (l0.length : Int)
      ·rw [if_pos c6] at H
       have c6b0 : decide (x13_1 < (l0.length : Int)) = true := decide_eq_true c6
       clear c6
       by_cases c7 : x13_1 < (l1.length : Int)
       ·rw [if_pos c7] at H
        have c7b0 : decide (x13_1 < (l1.length : Int)) = true := decide_eq_true c7
        clear c7
        by_cases c8 : (rd l0 x13_1) = (rd l1 x13_1)
        focus
         rw [if_pos c8] at H
         have c8b0 : ((rd l0 x13_1) == (rd l1 x13_1)) = true := beq_iff_eq.mpr c8
         have c8b1 : ((rd l0 x13_1) != (rd l1 x13_1)) = false := bne_eq_false_iff_eq.mpr c8
         clear c8
         have H' := M_ H
         clear H
        rotate_left
        focus
         rw [if_neg c8] at H
         have c8b0 : ((rd l0 x13_1) == (rd l1 x13_1)) = false := beq_eq_false_iff_ne.mpr c8
         have c8b1 : ((rd l0 x13_1) != (rd l1 x13_1)) = true := bne_iff_ne.mpr c8
         obtain rfl := Option.some.inj H
        rotate_left
        all_goals
         have p632 : 0 ≤ (x13_1 : Int) := dT_
         have q632 : x13_1 < (l0.length : Int) := dT_
         obtain ⟨ad632, e632, hx632_0⟩ := Kd.at_int HR0.out x13_1 p632 q632;cases e632;replace p632 := eq_true p632;replace q632 := eq_true q632
         have p633 : 0 ≤ (x13_1 : Int) := dT_
         have q633 : x13_1 < (l1.length : Int) := dT_
         obtain ⟨ad633, e633, hx633_0⟩ := Kd.at_int HR1.out x13_1 p633 q633;cases e633;replace p633 := eq_true p633;replace q633 := eq_true q633
         go_wp2
         repeat (go_quiet (fail); try go_wp2)
        ·go_roundg k1
         case measure => have := HK1.out; omega
         case rel => exact ⟨(wrap64 (x13_1 + 1)), eD_, H', ⟨by have := HK1.out; omega⟩, by repeat (first | exact Drawn0.refl _ | apply Drawn0.step)⟩
        ·go_ret
         exact ⟨by first | rfl | (simp; done) | (simp [*]; done), by repeat (first | exact Drawn0.refl _ | apply Drawn0.step)⟩
       ·rw [if_neg c7] at H
        exact absurd H (by simp)
      ·rw [if_neg c6] at H
       exact absurd H (by simp)
     ·rw [if_neg c5] at H
      exact absurd H (by simp)
    ·rw [if_neg c4] at H
     have c4b0 : decide (x13_1 < (l0.length : Int)) = false := decide_eq_false c4
     clear c4;obtain rfl := Option.some.inj H
     go_wp2
     repeat (go_quiet (fail); try go_wp2)
     go_ret
     exact ⟨by first | rfl | (simp; done) | (simp [*]; done), by repeat (first | exact Drawn0.refl _ | apply Drawn0.step)⟩
 ·rw [if_neg c3] at H
  have c3b0 : ((l0.length : Int) == (l1.length : Int)) = false := beq_eq_false_iff_ne.mpr c3
  have c3b1 : ((l0.length : Int) != (l1.length : Int)) = true := bne_iff_ne.mpr c3
  have c3b2 : (l0.length == l1.length) = false := by first | simpa using c3 | (simp at c3 ⊢; omega)
  obtain rfl := Option.some.inj H
  go_enter Try.func61, Try.ntmps61
  go_wp2
  repeat (go_quiet (fail); try go_wp2)
  go_ret
  exact ⟨by first | rfl | (simp; done) | (simp [*]; done), by repeat (first | exact Drawn0.refl _ | apply Drawn0.step)⟩
end Go.Proofs.Ytgeipgflhjakjaa.PFnPlayable
