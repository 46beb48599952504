-- by wip/xprint.py, over the kit's printer
import Derived.Test.YtpkklbjdhmpjnaaGreatDoorPFnInstrumentsx0
import Derived.Test.YtpkklbjdhmpjnaaGreatDoorPFnInstrumentsx3
import Derived.Test.YtpkklbjdhmpjnaaGreatDoorPFnInstrumentsx4
import Derived.Test.YtpkklbjdhmpjnaaGreatDoorPFnInstrumentsx6
namespace Go.Proofs.YtpkklbjdhmpjnaaGreatDoor.PFnInstruments
open Go.RowKit Go.Proofs.YtpkklbjdhmpjnaaGreatDoorW.PrintWords Go.Proofs.YtpkklbjdhmpjnaaGreatDoorW.PrintLast Go.Proofs.YtpkklbjdhmpjnaaGreatDoorW.PrintMore
attribute [local go_sem] max2_int min2_int max_two min_two max_three min_three max_four min_four   -- for this text's walks alone
set_option linter.unusedVariables false
set_option linter.unusedSimpArgs false

def impl_sortedSet.f (l0 : List Int) : Option (List Int) := (clone_int.f l0).bind fun t335 => ((sort_Ints.f t335).bind fun t338 => ((compact_int.f t338).bind fun t339 => (some t339)))
set_option maxHeartbeats 8000000 in
set_option maxRecDepth 100000 in
theorem impl_sortedSet.calls (A0 : Option Addr) (c0 : Nat) (l0 : List Int) (r : List Int) (w : World) (hr0 : Kd.C (Kd.int .i64) w A0 l0.length l0) (hc0 : l0.length ≤ c0) (h : impl_sortedSet.f l0 = some r) :
  Calls Tryz.prog 32 #[.slice A0 l0.length c0] w fun e w' => ∃ v0_ : Value, e = .returned (v0_) ∧ Kd.R (Kd.int .i64) 3 w' w.heap.size (fun _ => True) v0_ r ∧ Below w.heap.size w w' := by
 have HR0 := M_ hr0;have HC0 := M_ hc0;clear hr0 hc0;have HB := M_ (Below.refl w.heap.size w)
 have H : ((clone_int.f l0).bind fun t335 => ((sort_Ints.f t335).bind fun t338 => ((compact_int.f t338).bind fun t339 => (some t339)))) = some r := h
 clear h;replace H := Option.bind_eq_some_iff.mp H;obtain ⟨t335, A20, H⟩ := H;(try dsimp only at H);have A2 := M_ A20;clear A20;replace H := Option.bind_eq_some_iff.mp H;obtain ⟨t338, A30, H⟩ := H;(try dsimp only at H);have A3 := M_ A30;clear A30;replace H := Option.bind_eq_some_iff.mp H;obtain ⟨t339, A40, H⟩ := H;replace H : (some t339) = some r := H;have A4 := M_ A40;clear A40;obtain rfl := Option.some.inj H
 go_enter Tryz.func32, Tryz.ntmps32
 go_wp2_with (first | ((with_reducible refine gc_ 33 ?_); refine gM_ (some 5) Tryz.func33 #[.slice A0 l0.length c0] ?_; (with_reducible refine (clone_int.calls _ _ l0 t335 _ ?side1 ?side2 A2.out).mono ?_); (case side1 => exact cU_ HR0.out); (case side2 => exact HC0.out); rintro e w5 ⟨v336, rfl, ho0, hb⟩; refine ⟨_, rfl, ?_⟩; have HO337 := M_ (Kd.R_lower ho0 (bZ_ HB)); replace HB := M_ (bS_ HB hb); clear hb ho0; obtain ⟨Ao6, co6, eo6⟩ := Kd.R_slice HO337.out; subst eo6) | ((with_reducible refine gc_ 60 ?_); refine gM_ (some 7) Tryz.func60 #[.slice Ao6 t335.length co6] ?_; (with_reducible refine (sort_Ints.calls (fun k_ => some k_ = (.slice Ao6 t335.length co6 : Value).ownBlock) (.slice Ao6 t335.length co6) t335 t338 w _ ?side1 ?side2 A3.out).mono ?_); (case side1 => exact bU_ HB); (case side2 => exact Kd.R_tight rfl HO337.out); rintro e w7 ⟨rfl, hy0, hb, hkp⟩; refine ⟨_, rfl, ?_⟩; replace HO337 := M_ (Kd.R_reok rfl hy0 (fun k_ e_ => HO337.out.1 k_ e_)); replace HB := M_ (hb); (try clear hb); (try clear hkp); (try clear hy0)) | ((with_reducible refine gc_ 61 ?_); refine gM_ (some 9) Tryz.func61 #[.slice Ao6 t335.length co6] ?_; (with_reducible refine (compact_int.calls (fun k_ => some k_ = (.slice Ao6 t335.length co6 : Value).ownBlock) (.slice Ao6 t335.length co6) t338 t339 w _ ?side1 ?side2 A4.out).mono ?_); (case side1 => exact bU_ HB); (case side2 => exact Kd.R_tight rfl HO337.out); rintro e w8 ⟨v340, rfl, ho0, hb, hkp⟩; refine ⟨_, rfl, ?_⟩; have HO341 := M_ (rm_ (ok' := fun k_ => True) ho0 (fun k_ hk_ => trivial)); replace HB := M_ (hb); clear HO337; (try clear hb); (try clear hkp); (try clear ho0)))
 go_ret
 exact ⟨_, eR_, rU_ HO341.out, bU_ HB⟩

def impl_AddPitch.j0 : Nat → Int → Bool → List Int → Int → Option (List Int × Int × Bool)
 | 0, _, _, _, _ => none
 | k + 1, x1, x25, x343000, x343001 => if x25 = true then (some (([] : List Int), 0, false)) else ((clone_int.f x343000).bind fun t347 => ((some (([x1] : List Int) : List Int)).bind fun y350 => (if t347.length + y350.length < 17592186044416 then ((impl_sortedSet.f (t347 ++ y350)).bind fun t356 => (some (t356, x343001, true))) else (none))))
def impl_AddPitch.f (k : Nat) (l0_0 : List Int) (a0_1 : Int) (a1 : Int) : Option (List Int × Int × Bool) := (impl_IsInstrument.f k l0_0 a0_1).bind fun t344 => (if t344 = true then ((impl_isPitch.f a1).bind fun t345 => (if t345 = true then ((slices_Contains_int_int.f k l0_0 a1).bind fun t346 => (if t346 = true then (impl_AddPitch.j0 k a1 true l0_0 a0_1) else (impl_AddPitch.j0 k a1 ((l0_0.length : Int) == 20) l0_0 a0_1))) else (impl_AddPitch.j0 k a1 true l0_0 a0_1))) else (impl_AddPitch.j0 k a1 true l0_0 a0_1))
theorem impl_AddPitch.mono_l : ∀ k, (∀ y0 y1 y2 y3, LeO (impl_AddPitch.j0 k y0 y1 y2 y3) (impl_AddPitch.j0 (k + 1) y0 y1 y2 y3))
 | 0 => fun _ _ _ _ r h => by simp [impl_AddPitch.j0] at h
 | k + 1 => by
  have ih0 := impl_AddPitch.mono_l k
  ·intro y0 y1 y2 y3
   unfold impl_AddPitch.j0
   have m0_ := @impl_IsInstrument.mono;have m1_ := @slices_Contains_int_int.mono;exact mo_
theorem impl_AddPitch.mono : ∀ a0 a1 a2 k, LeO (impl_AddPitch.f k a0 a1 a2) (impl_AddPitch.f (k + 1) a0 a1 a2) := by
 intro a0 a1 a2 k;have ih0 := impl_AddPitch.mono_l k
 unfold impl_AddPitch.f
 have m0_ := @impl_IsInstrument.mono;have m1_ := @slices_Contains_int_int.mono;exact mo_
def impl_AddPitch.T3 : Bool × List (List Nat × List Nat) := (true, [([], []), ([0], [0]), ([1], [1]), ([], []), ([3], [3]), ([2, 4, 2], [2, 4]), ([5, 5], [5]), ([], []), ([7], [7]), ([6, 8], [6, 8]), ([9, 6, 0, 1, 2, 3, 4, 5, 6, 7, 8, 9], [9]), ([10, 0, 1, 2, 3, 4, 5, 6, 7, 8, 9, 10], [])])
def impl_AddPitch.B3 : List Nat := [0, 1, 3, 0, 8, 31, 63, 0, 128, 511, 1023, 2047]
theorem impl_AddPitch.tab3 : rtab .any (opsOf Tryz.f8 3) = impl_AddPitch.T3 := by kernel_rfl
theorem impl_AddPitch.bits3 : waitsOk impl_AddPitch.T3.2 impl_AddPitch.B3 = true := by kernel_rfl
set_option maxHeartbeats 8000000 in
set_option maxRecDepth 100000 in
theorem impl_AddPitch.calls (k : Nat) (A0_0 : Option Addr) (c0_0 : Nat) (l0_0 : List Int) (a0_1 : Int) (a1 : Int) (r1 : List Int) (r2 : Int) (r3 : Bool) (w : World) (hr0_0 : Kd.C (Kd.int .i64) w A0_0 l0_0.length l0_0) (hc0_0 : l0_0.length ≤ c0_0) (h : impl_AddPitch.f k l0_0 a0_1 a1 = some (r1, r2, r3)) :
  Calls Tryz.prog 8 #[.agg #[.slice A0_0 l0_0.length c0_0, .int .i64 a0_1], .int .i64 a1] w fun e w' => ∃ v0_ : Value, e = .returned (.tuple #[.agg #[v0_, .int .i64 r2], .bool r3]) ∧ Kd.R (Kd.int .i64) 3 w' w.heap.size (fun _ => True) v0_ r1 ∧ Below w.heap.size w w' := by
 have hu25 := Tryz.underlying25;have HR0_0 := M_ hr0_0;have HC0_0 := M_ hc0_0;clear hr0_0 hc0_0;have HB := M_ (Below.refl w.heap.size w)
 have H : ((impl_IsInstrument.f k l0_0 a0_1).bind fun t344 => (if t344 = true then ((impl_isPitch.f a1).bind fun t345 => (if t345 = true then ((slices_Contains_int_int.f k l0_0 a1).bind fun t346 => (if t346 = true then (impl_AddPitch.j0 k a1 true l0_0 a0_1) else (impl_AddPitch.j0 k a1 ((l0_0.length : Int) == 20) l0_0 a0_1))) else (impl_AddPitch.j0 k a1 true l0_0 a0_1))) else (impl_AddPitch.j0 k a1 true l0_0 a0_1))) = some (r1, r2, r3) := h
 clear h;have HC3 := M_ H;clear H
 go_enter Tryz.func8, Tryz.ntmps8
 go_upto_region 1 with (first | ((with_reducible refine gate_dst (N := 2) rfl ?_); (try (refine gate_guard (by rfl) ?_; dsimp only)); refine bx_ (N := 2) (cs := #[.slice A0_0 l0_0.length c0_0, .int .i64 a0_1]) (t := 25) ?_; intro gb342 hg w4 hbox hb; have BK342 := M_ (hbox); have GW342 := M_ (gw_ HB hg); have GE342 := M_ (gw_ HB hg); replace HB := M_ (bS_ HB hb); clear hb hbox hg) | ((with_reducible refine gate_dst (N := 4) rfl ?_); (try (refine gate_guard (by rfl) ?_; dsimp only)); refine bx_ (N := 4) (cs := #[.slice none 0 0, .int .i64 0]) (t := 25) ?_; intro gb343 hg w5 hbox hb; have BK343 := M_ (hbox); have GW343 := M_ (gw_ HB hg); have GE343 := M_ (gw_ HB hg); replace HB := M_ (bS_ HB hb); have NB342_343 := M_ (nb_ BK342 hg); have NB343_342 := M_ ((by rw [hg]; exact Nat.ne_of_gt (blk_lt (kU_ BK342)) : gb343 ≠ gb342)); replace BK342 := M_ (kb_ BK342 hb); clear hb hbox hg))
 (try simp only [Act.put, la_, lb_, lc_])
 go_cut [25] (fun v25 wc => ∃ (kq : Nat) (x25_2 : Bool), v25 = .bool x25_2 ∧ Aside0 (impl_AddPitch.j0 kq a1 x25_2 l0_0 a0_1 = some (r1, r2, r3)) ∧ Aside0 (kq ≤ k) ∧ Aside0 (wc.heap[gb342]? = some (.cells #[(.slice A0_0 l0_0.length c0_0), .int .i64 a0_1] 25 (0, 0))) ∧ Aside0 (wc.heap[gb343]? = some (.cells #[(.slice none 0 0), .int .i64 0] 25 (0, 0))) ∧ Aside0 (Below w.heap.size w wc))
 case first =>
  have H := HC3.out;clear HC3;replace H := Option.bind_eq_some_iff.mp H;obtain ⟨t344, A60, H⟩ := H;(try dsimp only at H);have A6 := M_ A60;clear A60
  by_cases c7 : t344 = true
  ·subst c7
   rw [if_pos rfl] at H
   replace H := Option.bind_eq_some_iff.mp H;obtain ⟨t345, A80, H⟩ := H;(try dsimp only at H);have A8 := M_ A80;clear A80
   by_cases c9 : t345 = true
   ·subst c9
    rw [if_pos rfl] at H
    replace H := Option.bind_eq_some_iff.mp H;obtain ⟨t346, A100, H⟩ := H;(try dsimp only at H);have A10 := M_ A100;clear A100
    by_cases c11 : t346 = true
    ·subst c11
     rw [if_pos rfl] at H
     have H' := M_ H
     clear H;have hnb12 := NB342_343.out;have hnc12 := NB343_342.out;obtain ⟨hcz13_0, hcz13_1, hfz13_0, hfz13_1⟩ := bq2_ BK342
     go_wp2_with (first | ((with_reducible refine gc_ 23 ?_); refine gM_ (some 7) Tryz.func23 #[.agg #[.slice A0_0 l0_0.length c0_0, .int .i64 a0_1]] ?_; (with_reducible refine (impl_IsInstrument.calls k _ _ l0_0 a0_1 true _ ?side1 ?side2 A6.out).mono ?_); (case side1 => exact cU_ (Kd.C_below HR0_0.out HB.out)); (case side2 => exact HC0_0.out); rintro e w14 ⟨rfl, hb⟩; refine ⟨_, rfl, ?_⟩; replace BK342 := M_ (kb_ BK342 hb); replace BK343 := M_ (kb_ BK343 hb); replace HB := M_ (bS_ HB hb); clear hb) | (go_at_call 30; (with_reducible refine (impl_isPitch.calls a1 true _ A8.out).mono ?_); rintro e w' ⟨rfl, ⟨nd, rfl⟩⟩; obtain ⟨hcz15_0, hcz15_1, hfz15_0, hfz15_1⟩ := bq2_ BK342) | (go_at_call 31; (with_reducible refine (slices_Contains_int_int.calls k _ _ l0_0 a1 true _ ?side1 ?side2 A10.out).mono ?_); (case side1 => exact cU_ (Kd.C_below HR0_0.out (bU_ HB))); (case side2 => exact HC0_0.out); rintro e w' ⟨rfl, ⟨nd, rfl⟩⟩))
     go_meet
     case rel => exact ⟨_, (true), eD_, H', ⟨by first | omega | exact Nat.le_refl _⟩, ⟨kU_ BK342⟩, ⟨kU_ BK343⟩, ⟨bU_ HB⟩⟩
    ·replace c11 := Bool.eq_false_iff.mpr c11
     subst c11
     rw [if_neg (show ¬ (false = true) by decide)] at H
     have H' := M_ H
     clear H;have hnb16 := NB342_343.out;have hnc16 := NB343_342.out;obtain ⟨hcz17_0, hcz17_1, hfz17_0, hfz17_1⟩ := bq2_ BK342
     go_wp2_with (first | ((with_reducible refine gc_ 23 ?_); refine gM_ (some 7) Tryz.func23 #[.agg #[.slice A0_0 l0_0.length c0_0, .int .i64 a0_1]] ?_; (with_reducible refine (impl_IsInstrument.calls k _ _ l0_0 a0_1 true _ ?side1 ?side2 A6.out).mono ?_); (case side1 => exact cU_ (Kd.C_below HR0_0.out HB.out)); (case side2 => exact HC0_0.out); rintro e w18 ⟨rfl, hb⟩; refine ⟨_, rfl, ?_⟩; replace BK342 := M_ (kb_ BK342 hb); replace BK343 := M_ (kb_ BK343 hb); replace HB := M_ (bS_ HB hb); clear hb) | (go_at_call 30; (with_reducible refine (impl_isPitch.calls a1 true _ A8.out).mono ?_); rintro e w' ⟨rfl, ⟨nd, rfl⟩⟩; obtain ⟨hcz19_0, hcz19_1, hfz19_0, hfz19_1⟩ := bq2_ BK342) | (go_at_call 31; (with_reducible refine (slices_Contains_int_int.calls k _ _ l0_0 a1 false _ ?side1 ?side2 A10.out).mono ?_); (case side1 => exact cU_ (Kd.C_below HR0_0.out (bU_ HB))); (case side2 => exact HC0_0.out); rintro e w' ⟨rfl, ⟨nd, rfl⟩⟩))
     go_meet
     case rel => exact ⟨_, (((l0_0.length : Int) == 20)), eD_, H', ⟨by first | omega | exact Nat.le_refl _⟩, ⟨kU_ BK342⟩, ⟨kU_ BK343⟩, ⟨bU_ HB⟩⟩
   ·replace c9 := Bool.eq_false_iff.mpr c9
    subst c9
    rw [if_neg (show ¬ (false = true) by decide)] at H
    have H' := M_ H
    clear H;have hnb20 := NB342_343.out;have hnc20 := NB343_342.out;obtain ⟨hcz21_0, hcz21_1, hfz21_0, hfz21_1⟩ := bq2_ BK342
    go_wp2_with (first | ((with_reducible refine gc_ 23 ?_); refine gM_ (some 7) Tryz.func23 #[.agg #[.slice A0_0 l0_0.length c0_0, .int .i64 a0_1]] ?_; (with_reducible refine (impl_IsInstrument.calls k _ _ l0_0 a0_1 true _ ?side1 ?side2 A6.out).mono ?_); (case side1 => exact cU_ (Kd.C_below HR0_0.out HB.out)); (case side2 => exact HC0_0.out); rintro e w22 ⟨rfl, hb⟩; refine ⟨_, rfl, ?_⟩; replace BK342 := M_ (kb_ BK342 hb); replace BK343 := M_ (kb_ BK343 hb); replace HB := M_ (bS_ HB hb); clear hb) | (go_at_call 30; (with_reducible refine (impl_isPitch.calls a1 false _ A8.out).mono ?_); rintro e w' ⟨rfl, ⟨nd, rfl⟩⟩))
    go_meet
    case rel => exact ⟨_, (true), eD_, H', ⟨by first | omega | exact Nat.le_refl _⟩, ⟨kU_ BK342⟩, ⟨kU_ BK343⟩, ⟨bU_ HB⟩⟩
  ·replace c7 := Bool.eq_false_iff.mpr c7
   subst c7
   rw [if_neg (show ¬ (false = true) by decide)] at H
   have H' := M_ H
   clear H;have hnb23 := NB342_343.out;have hnc23 := NB343_342.out;obtain ⟨hcz24_0, hcz24_1, hfz24_0, hfz24_1⟩ := bq2_ BK342
   go_wp2_with (first | ((with_reducible refine gc_ 23 ?_); refine gM_ (some 7) Tryz.func23 #[.agg #[.slice A0_0 l0_0.length c0_0, .int .i64 a0_1]] ?_; (with_reducible refine (impl_IsInstrument.calls k _ _ l0_0 a0_1 false _ ?side1 ?side2 A6.out).mono ?_); (case side1 => exact cU_ (Kd.C_below HR0_0.out HB.out)); (case side2 => exact HC0_0.out); rintro e w25 ⟨rfl, hb⟩; refine ⟨_, rfl, ?_⟩; replace BK342 := M_ (kb_ BK342 hb); replace BK343 := M_ (kb_ BK343 hb); replace HB := M_ (bS_ HB hb); clear hb))
   go_meet
   case rel => exact ⟨_, (true), eD_, H', ⟨by first | omega | exact Nat.le_refl _⟩, ⟨kU_ BK342⟩, ⟨kU_ BK343⟩, ⟨bU_ HB⟩⟩
 case rest =>
  clear HC3;obtain ⟨kq, x25_2, rfl, HA, HJ2, BK342, BK343, HB⟩ := hcut
  cases kq with
  | zero => exact absurd HA.out (by simp [impl_AddPitch.j0])
  | succ kj2 =>
   have H := HA.out;clear HA;simp only [impl_AddPitch.j0] at H
   by_cases c26 : x25_2 = true
   ·subst c26
    rw [if_pos rfl] at H
    simp only [Option.some.injEq, Prod.mk.injEq] at H;obtain ⟨rfl, rfl, rfl⟩ := H;have hnb27 := NB343_342.out;have hnc27 := NB342_343.out;obtain ⟨hcz28_0, hcz28_1, hfz28_0, hfz28_1⟩ := bq2_ BK343
    go_wp2
    refine bodyPost_ret (results_ct rfl _ _ gb343 25 #[.slice none 0 0, .int .i64 0] (0, 0) _ rfl (by (with_reducible repeat (first | refine kn_ ?_ _ | refine kd_ ?_ | refine ka_ ?_ _)); refine blk_put (cs := #[.slice none 0 0, .int .i64 0]) ?_ 1 _ rfl; (with_reducible repeat (first | refine kn_ ?_ _ | refine kd_ ?_ | refine ka_ ?_ _)); refine blk_put (cs := #[.slice none 0 0, .int .i64 0]) ?_ 0 _ rfl; (with_reducible repeat (first | refine kn_ ?_ _ | refine kd_ ?_ | refine ka_ ?_ _)); exact BK343.out) Tryz.underlying25 rfl (by kernel_rfl)) rfl ?_;exact ⟨_, eR_, by first | exact Kd.R_nil _ _ _ _ _ | exact Kd.N_nil _ _ _ _ _ | exact Kd.V_nil _ _ _ _ _ | exact Kd.Q_nil _ _ _ _ _ | exact Kd.S_nil _ _ _ _ _, bU_ HB⟩
   ·replace c26 := Bool.eq_false_iff.mpr c26
    subst c26
    rw [if_neg (show ¬ (false = true) by decide)] at H
    replace H := Option.bind_eq_some_iff.mp H;obtain ⟨t347, A290, H⟩ := H;(try dsimp only at H);have A29 := M_ A290;clear A290;obtain ⟨y350, hy350, H⟩ := ob_ H;(try dsimp only at H);have Ny350 := M_ hy350;clear hy350
    by_cases c30 : t347.length + y350.length < 17592186044416
    ·rw [if_pos c30] at H
     have LMc30 := M_ c30;clear c30;obtain ⟨y353, hy353⟩ : ∃ y_ : List Int, y_ = (t347 ++ y350) := ⟨_, rfl⟩
     replace H : ((impl_sortedSet.f y353).bind fun t356 => (some (t356, a0_1, true))) = some (r1, r2, r3) := by first | (rw [hy353]; with_reducible exact H) | (have H2_ := (Option.bind_some _ _).symm.trans H; rw [hy353]; with_reducible exact H2_) | (have H2_ := (Option.bind_some _ _).symm.trans H; with_reducible exact H2_) | with_reducible exact H | (rw [hy353]; exact H) | exact H
     have Ny353 := M_ hy353;clear hy353;replace H := Option.bind_eq_some_iff.mp H;obtain ⟨t356, A310, H⟩ := H;replace H : (some (t356, a0_1, true)) = some (r1, r2, r3) := H;have A31 := M_ A310;clear A310;simp only [Option.some.injEq, Prod.mk.injEq] at H;obtain ⟨rfl, rfl, rfl⟩ := H
     try go_wp2
     replace BK342 := M_ (kd_ BK342.out); replace BK343 := M_ (kd_ BK343.out); replace HB := M_ (b1_ HB.out);refine start_ (n := 12) (S := fun w' => w'.cell? ⟨gb342, 0, none⟩ = some (.slice A0_0 l0_0.length c0_0) ∧ w'.cell? ⟨gb342, 1, none⟩ = some (.int .i64 a0_1)) (ds := []) #[F,F,F,F,F,F,F,F,F,F,F,F] (by kernel_rfl) rfl rfl ⟨bc0_ BK342, bc1_ BK342⟩ (fun hHeld => ?_); refine with_tabW impl_AddPitch.tab3 impl_AddPitch.bits3 (fun HT_ HW_ => ?_);generalize wc.drew = w32 at BK342 BK343 HB hHeld ⊢;refine pR_ (i := 0) (N := some 27) #[T,F,F,F,F,F,F,F,F,F,F,F] ?_;refine pR_ (i := 3) (N := some 30) #[T,F,F,T,F,F,F,F,F,F,F,F] ?_;refine pR_ (i := 7) (N := some 34) #[T,F,F,T,F,F,F,T,F,F,F,F] ?_;refine take_ (i := 1) (N := some 28) (v := ?_) (a' := ?_) #[T,T,F,T,F,F,F,T,F,F,F,F] rfl rfl (take_ofW HT_.out HW_.out (by kernel_rfl)) (fun _ _ _ h => h) (Or.inl ⟨by rfl, ?_⟩) hHeld ?_ ?_;rotate_left
     ·rintro w' ⟨s0, s1⟩
      go_simp;with_reducible rfl
     rotate_left
     ·simp only [Act.put, la_, lb_, lc_, i64_w, i32_w]
      rfl
     refine take_ (i := 8) (N := some 35) (v := ?_) (a' := ?_) #[T,T,F,T,F,F,F,T,T,F,F,F] rfl rfl (take_ofW HT_.out HW_.out (by kernel_rfl)) (fun _ _ _ h => h) (Or.inl ⟨by rfl, ?_⟩) hHeld ?_ ?_;rotate_left
     ·rintro w' ⟨s0, s1⟩
      go_simp;with_reducible rfl
     rotate_left
     ·simp only [Act.put, la_, lb_, lc_, i64_w, i32_w]
      rfl
     refine join_ (σ := Value × Value) 5 #[T,T,T,T,T,F,F,T,T,F,F,F] (fun s_ => [(29, s_.1), (31, s_.2)]) (fun s_ w' => (w'.cell? ⟨gb342, 0, none⟩ = some (.slice A0_0 l0_0.length c0_0) ∧ w'.cell? ⟨gb342, 1, none⟩ = some (.int .i64 a0_1)) ∧ (Kd.R (Kd.int .i64) 3 w' w.heap.size (fun k_ => some k_ ≠ (s_.2 : Value).ownBlock) s_.1 t347) ∧ (Kd.R (Kd.int .i64) 3 w' w.heap.size (fun k_ => some k_ ≠ (s_.1 : Value).ownBlock) s_.2 y350) ∧ (w'.heap[gb342]? = some (.cells #[.slice A0_0 l0_0.length c0_0, .int .i64 a0_1] 25 (0, 0))) ∧ (w'.heap[gb343]? = some (.cells #[.slice none 0 0, .int .i64 0] 25 (0, 0))) ∧ (Below w.heap.size w w')) ?_ ?_;rotate_left
     ·intro hCont
      refine two_ (i := 2) (j := 4) (Ni := some 29) (Nj := some 31) #[T,T,T,T,F,F,F,T,T,F,F,F] #[T,T,F,T,T,F,F,T,T,F,F,F] rfl rfl rfl rfl (two_of HT_.out (by kernel_rfl)) (by decide) (by decide) (fun K hK => ?_) (fun K hK => ?_)
      ·skip
       refine gS_ Tryz.func33 #[.slice A0_0 l0_0.length c0_0] ?_
       with_reducible refine (clone_int.calls _ _ l0_0 t347 _ ?side1 ?side2 A29.out).mono ?_
       (case side1 => exact cU_ (Kd.C_below HR0_0.out HB.out))
       (case side2 => exact HC0_0.out)
       rintro e w33 ⟨v348, rfl, ho0, hb⟩;refine ⟨_, rfl, ?_⟩;have HO349 := M_ (Kd.R_lower ho0 (bZ_ HB)); replace BK342 := M_ (kb_ BK342 hb); replace BK343 := M_ (kb_ BK343 hb); replace HB := M_ (bS_ HB hb);clear hb ho0;refine hK.out _ _ ⟨bc0_ BK342, bc1_ BK342⟩ (fun hHeld => ?_);clear hK K;refine nM_ (some 29) ?_;refine one_ (i := 4) (N := some 31) #[T,T,T,T,T,F,F,T,T,F,F,F] rfl rfl (one_of HT_.out (by kernel_rfl)) (by decide) (fun K hK => ?_);refine ls_ (Kd.int .i64) 3 (N := 31) (([a1] : List Int)) [.int .i64 a1] ri_ ?_;intro v351 w34 ho35 hb hg_ hnew_;clear hg_ hnew_;replace ho35 := rN_ Ny350 ho35;have HO352 := M_ (Kd.R_lower (Kd.R_new' ho35 (rl_ HO349)) (bZ_ HB)); replace HO349 := M_ (re_ HO349 ho35 hb); replace BK342 := M_ (kb_ BK342 hb); replace BK343 := M_ (kb_ BK343 hb); replace HB := M_ (bS_ HB hb);clear hb ho35;refine hK.out _ _ ⟨bc0_ BK342, bc1_ BK342⟩ (fun hHeld => ?_);clear hK K;refine nM_ (some 31) ?_;exact norm_ (by simp only [putAll, Act.put, la_, lb_, lc_]) (hCont (v348, v351) _ ⟨hHeld, (rU_ (rm_ HO349.out (fun _ hk => hk.2))), (rU_ (rm_ HO352.out (fun _ hk => hk.2))), (kU_ BK342), (kU_ BK343), (bU_ HB)⟩)
      ·skip
       refine ls_ (Kd.int .i64) 3 (N := 31) (([a1] : List Int)) [.int .i64 a1] ri_ ?_;intro v351 w33 ho34 hb hg_ hnew_;clear hg_ hnew_;replace ho34 := rN_ Ny350 ho34;have HO352 := M_ (Kd.R_lower ho34 (bZ_ HB)); replace BK342 := M_ (kb_ BK342 hb); replace BK343 := M_ (kb_ BK343 hb); replace HB := M_ (bS_ HB hb);clear hb ho34;refine hK.out _ _ ⟨bc0_ BK342, bc1_ BK342⟩ (fun hHeld => ?_);clear hK K;refine nM_ (some 31) ?_;refine one_ (i := 2) (N := some 29) #[T,T,T,T,T,F,F,T,T,F,F,F] rfl rfl (one_of HT_.out (by kernel_rfl)) (by decide) (fun K hK => ?_);refine gS_ Tryz.func33 #[.slice A0_0 l0_0.length c0_0] ?_
       with_reducible refine (clone_int.calls _ _ l0_0 t347 _ ?side1 ?side2 A29.out).mono ?_
       (case side1 => exact cU_ (Kd.C_below HR0_0.out HB.out))
       (case side2 => exact HC0_0.out)
       rintro e w35 ⟨v348, rfl, ho0, hb⟩;refine ⟨_, rfl, ?_⟩;have HO349 := M_ (Kd.R_lower (Kd.R_new' ho0 (rl_ HO352)) (bZ_ HB)); replace HO352 := M_ (re_ HO352 ho0 hb); replace BK342 := M_ (kb_ BK342 hb); replace BK343 := M_ (kb_ BK343 hb); replace HB := M_ (bS_ HB hb);clear hb ho0;refine hK.out _ _ ⟨bc0_ BK342, bc1_ BK342⟩ (fun hHeld => ?_);clear hK K;refine nM_ (some 29) ?_;exact norm_ (by simp only [putAll, Act.put, la_, lb_, lc_]) (hCont (v348, v351) _ ⟨hHeld, (rU_ (rm_ HO349.out (fun _ hk => hk.2))), (rU_ (rm_ HO352.out (fun _ hk => hk.2))), (kU_ BK342), (kU_ BK343), (bU_ HB)⟩)
     rintro ⟨v348, v351⟩ w36 ⟨hS_, h0_, h1_, h2_, h3_, h4_⟩
     have n0_ : Aside0 (Kd.R (Kd.int .i64) 3 w36 w.heap.size (fun k_ => some k_ ≠ (v351 : Value).ownBlock) v348 t347) := ⟨h0_⟩
     have n1_ : Aside0 (Kd.R (Kd.int .i64) 3 w36 w.heap.size (fun k_ => some k_ ≠ (v348 : Value).ownBlock) v351 y350) := ⟨h1_⟩
     have n2_ : Aside0 (w36.heap[gb342]? = some (.cells #[.slice A0_0 l0_0.length c0_0, .int .i64 a0_1] 25 (0, 0))) := ⟨h2_⟩
     have n3_ : Aside0 (w36.heap[gb343]? = some (.cells #[.slice none 0 0, .int .i64 0] 25 (0, 0))) := ⟨h3_⟩
     have n4_ : Aside0 (Below w.heap.size w w36) := ⟨h4_⟩
     clear BK342;clear BK343;clear HB;clear h0_ h1_ h2_ h3_ h4_;have HO349 := n0_;have HO352 := n1_;have BK342 := n2_;have BK343 := n3_;have HB := n4_;clear n0_ n1_ n2_ n3_ n4_
     have hHeld : w36.cell? ⟨gb342, 0, none⟩ = some (.slice A0_0 l0_0.length c0_0) ∧ w36.cell? ⟨gb342, 1, none⟩ = some (.int .i64 a0_1) := hS_
     obtain ⟨Ao38, co38, eo38⟩ := Kd.R_slice HO352.out
     (first | subst eo38 | (injection eo38 with f1_ f2_ f3_; have f4_ := f1_.symm; have f5_ := f3_.symm; clear f1_ f2_ f3_; subst f4_; subst f5_))
     refine norm_ (a' := ?_) ?_ ?_;rotate_left
     ·simp only [putAll, Act.put, la_, lb_, lc_]
      rfl
     refine one_ (i := 5) (N := some 32) #[T,T,T,T,T,T,F,T,T,F,F,F] rfl rfl (one_of HT_.out (by kernel_rfl)) (by decide) (fun K hK => ?_);refine Kd.R_append_rows_step (Kd.int .i64) (w0 := w) w.heap.size (by rfl) (.tmp 29) (.tmp 31) 23 3 (.int .i64 0) 8 rfl Tryz.underlying23 info3 rfl (by decide) (by omega) v348 t347 y350 _ _ _ (fun k_ => some k_ ≠ (.slice Ao38 y350.length co38 : Value).ownBlock) (fun _ => False) rfl rfl ?aO ?aR (fun _ _ h => h) (fun _ h => h.elim) ?aF ?aB ?aS ?aL ?_
     (case aR => exact cU_ (Kd.R_reads' HO352.out).2.2)
     (case aB => exact (bU_ HB))
     (case aF => exact (fun k_ hk => Kd.fresh' (rl_ HO352) k_ hk))
     (case aO => exact (rU_ HO349.out))
     (case aS => exact (bZ_ HB))
     (case aL => have := LMc30.out; omega)
     intro v354 w37 ho hb hg hat
     rw [← Ny353.out] at ho
     replace BK342 := M_ (kg_ BK342 hg (Kd.R_ne HO349.out BK342.out (by decide))); replace BK343 := M_ (kg_ BK343 hg (Kd.R_ne HO349.out BK343.out (by decide))); replace HO352 := M_ (Kd.R_after (ok := (fun _ => True)) (by (with_reducible repeat (first | apply ra_ | apply rn_ | apply rd_)); first | exact rm_ HO352.out (fun _ hk => ⟨trivial, hk⟩) | exact rm_ HO352.out (fun _ hk => by refine ⟨?_, ?_⟩ <;> (first | exact hk.2 | exact hk.2.1 | exact hk.2.2 | exact hk.1.2 | exact hk.1.2.1 | exact hk.1.2.2 | exact hk.1.1.2 | exact hk.1.1.2.1 | exact hk.1.1.2.2 | exact hk.1.1.1.2 | exact hk.1.1.1.2.1 | exact hk.1.1.1.2.2 | exact hk.1.1.1.1.2 | exact hk.1.1.1.1.2.1 | exact hk.1.1.1.1.2.2 | exact hk | exact hk.1 | exact hk.1.1 | exact hk.1.1.1 | exact hk.1.1.1.1 | exact hk.1.1.1.1.1))) hg hat); replace HB := M_ (hb); have HO355 := M_ (ho); clear HO349;clear ho hb hg hat;obtain ⟨Ao39, co39, eo39⟩ := Kd.R_slice HO355.out
     (first | subst eo39 | (injection eo39 with f1_ f2_ f3_; have f4_ := f1_.symm; have f5_ := f3_.symm; clear f1_ f2_ f3_; subst f4_; subst f5_))
     refine hK.out _ _ ⟨bc0_ BK342, bc1_ BK342⟩ (fun hHeld => ?_);clear hK K;refine nM_ (some 32) ?_;refine one_ (i := 6) (N := some 33) #[T,T,T,T,T,T,T,T,T,F,F,F] rfl rfl (one_of HT_.out (by kernel_rfl)) (by decide) (fun K hK => ?_);refine gS_ Tryz.func32 #[.slice Ao39 y353.length co39] ?_
     with_reducible refine (impl_sortedSet.calls _ _ y353 t356 _ ?side1 ?side2 A31.out).mono ?_
     (case side1 => exact cU_ (Kd.R_reads' HO355.out).2.2)
     (case side2 => exact (Kd.R_reads' HO355.out).2.1)
     rintro e w40 ⟨v357, rfl, ho0, hb⟩;refine ⟨_, rfl, ?_⟩;have HO358 := M_ (Kd.R_lower (Kd.R_new' (Kd.R_new' ho0 (rl_ HO352)) (rl_ HO355)) (bZ_ HB)); replace HO352 := M_ (re_ HO352 ho0 hb); replace HO355 := M_ (re_ HO355 ho0 hb); replace BK342 := M_ (kb_ BK342 hb); replace BK343 := M_ (kb_ BK343 hb); replace HB := M_ (bS_ HB hb);clear hb ho0;obtain ⟨Ao41, co41, eo41⟩ := Kd.R_slice HO358.out
     (first | subst eo41 | (injection eo41 with f1_ f2_ f3_; have f4_ := f1_.symm; have f5_ := f3_.symm; clear f1_ f2_ f3_; subst f4_; subst f5_))
     refine hK.out _ _ ⟨bc0_ BK342, bc1_ BK342⟩ (fun hHeld => ?_);clear hK K;refine nM_ (some 33) ?_;refine pR_ (i := 9) (N := some 36) #[T,T,T,T,T,T,T,T,T,T,F,F] ?_;refine one_ (i := 10) (N := none) #[T,T,T,T,T,T,T,T,T,T,T,F] rfl rfl (one_of HT_.out (by kernel_rfl)) (by decide) (fun K hK => ?_)
     have hs42 : w40.cell? ⟨gb343, 0, none⟩ = some (.slice none 0 0) := bc0_ BK343
     have hfs42 := bf_ BK343 0;have hns42_0 := NB342_343.out;have hms42_0 := NB343_342.out
     have hs43 : w40.cell? ⟨gb343, 1, none⟩ = some (.int .i64 0) := bc1_ BK343
     have hfs43 := bf_ BK343 1;have hns43_0 := NB342_343.out;have hms43_0 := NB343_342.out;refine skip_ (w1 := ?_) (by rfl) rfl ?_ ?_;rotate_left
     ·go_simp
      rfl
     refine hK.out _ _ ⟨((cell_far (p := ⟨gb343, _, none⟩) NB342_343.out _).trans (((cell_far (p := ⟨gb343, _, none⟩) NB342_343.out _).trans (hHeld.1)))), ((cell_far (p := ⟨gb343, _, none⟩) NB342_343.out _).trans (((cell_far (p := ⟨gb343, _, none⟩) NB342_343.out _).trans (hHeld.2))))⟩ (fun hHeld => ?_);clear hK K;refine pR_ (i := 11) (N := some 5) #[T,T,T,T,T,T,T,T,T,T,T,T] ?_;refine done_ (done_of HT_.out (by kernel_rfl)) ?_
     try go_wp2
     refine bodyPost_ret (results_ct rfl _ _ gb343 25 #[.slice Ao41 t356.length co41, .int .i64 a0_1] (0, 0) _ rfl (by (with_reducible repeat (first | refine kn_ ?_ _ | refine kd_ ?_ | refine ka_ ?_ _)); refine blk_put (cs := #[.slice Ao41 t356.length co41, .int .i64 0]) ?_ 1 _ rfl; (with_reducible repeat (first | refine kn_ ?_ _ | refine kd_ ?_ | refine ka_ ?_ _)); refine blk_put (cs := #[.slice none 0 0, .int .i64 0]) ?_ 0 _ rfl; (with_reducible repeat (first | refine kn_ ?_ _ | refine kd_ ?_ | refine ka_ ?_ _)); exact BK343.out) Tryz.underlying25 rfl (by kernel_rfl)) rfl ?_;exact ⟨_, eR_, by (with_reducible repeat (first | apply ra_ | apply rn_ | apply rd_)); exact rm_ (Kd.R_far (p := ⟨gb343, 1, none⟩) (Kd.R_far (p := ⟨gb343, 0, none⟩) (rt_ HO358.out BK343.out (by decide)) (fun _ hk => hk.2) (.slice Ao41 t356.length co41)) (fun _ hk => hk.2) (.int .i64 a0_1)) (fun _ hk => trivial), bU_ HB⟩
    ·rw [if_neg c30] at H
     exact absurd H (by simp)

def spec_ntPitch.f (a0 : Int) : Option (Bool) := (spec_l1In.f a0 24 96).bind fun t359 => (some t359)
set_option maxHeartbeats 8000000 in
set_option maxRecDepth 100000 in
theorem spec_ntPitch.calls (a0 : Int) (r : Bool) (w : World) (h : spec_ntPitch.f a0 = some r) :
  Calls Tryz.prog 34 #[.int .i64 a0] w fun e w' => e = .returned (.bool r) ∧ Drawn0 w w' := by
 have H : ((spec_l1In.f a0 24 96).bind fun t359 => (some t359)) = some r := h
 clear h;replace H := Option.bind_eq_some_iff.mp H;obtain ⟨t359, A20, H⟩ := H;replace H : (some t359) = some r := H;have A2 := M_ A20;clear A20;obtain rfl := Option.some.inj H
 go_enter Tryz.func34, Tryz.ntmps34
 go_wp2_with (first | ((with_reducible refine gc_ 42 ?_); refine gM_ (some 4) Tryz.func42 #[.int .i64 a0, .int .i64 24, .int .i64 96] ?_; (with_reducible refine (spec_l1In.calls a0 24 96 t359 _ A2.out).mono ?_); rintro e w' ⟨rfl, ⟨nd, rfl⟩⟩; refine ⟨_, rfl, ?_⟩))
 go_ret
 exact ⟨by first | rfl | (simp; done) | (simp [*]; done), by repeat (first | exact Drawn0.refl _ | apply Drawn0.step)⟩

def spec_inTrack.l0 : Nat → Int → List Int → Int → Int → Option (Int)
 | 0, _, _, _, _ => none
 | k + 1, x1, x8, x9, x10 => if x10 < x9 then (if 0 ≤ x10 then (if x10 < (x8.length : Int) then (if (rd x8 x10) = x1 then (some x10) else (spec_inTrack.l0 k x1 x8 x9 (wrap64 (x10 + 1)))) else (none)) else (none)) else (some (-1))
def spec_inTrack.f (k : Nat) (l0_0 : List Int) (a0_1 : Int) (a1 : Int) : Option (Int) := spec_inTrack.l0 k a1 l0_0 (l0_0.length : Int) 0
theorem spec_inTrack.mono_l : ∀ k, (∀ y0 y1 y2 y3, LeO (spec_inTrack.l0 k y0 y1 y2 y3) (spec_inTrack.l0 (k + 1) y0 y1 y2 y3))
 | 0 => fun _ _ _ _ r h => by simp [spec_inTrack.l0] at h
 | k + 1 => by
  have ih0 := spec_inTrack.mono_l k
  ·intro y0 y1 y2 y3
   unfold spec_inTrack.l0
   exact mo_
theorem spec_inTrack.mono : ∀ a0 a1 a2 k, LeO (spec_inTrack.f k a0 a1 a2) (spec_inTrack.f (k + 1) a0 a1 a2) := by
 intro a0 a1 a2 k;have ih0 := spec_inTrack.mono_l k
 unfold spec_inTrack.f
 exact mo_
set_option maxHeartbeats 8000000 in
set_option maxRecDepth 100000 in
theorem spec_inTrack.calls (k : Nat) (A0_0 : Option Addr) (c0_0 : Nat) (l0_0 : List Int) (a0_1 : Int) (a1 : Int) (r : Int) (w : World) (hr0_0 : Kd.C (Kd.int .i64) w A0_0 l0_0.length l0_0) (hc0_0 : l0_0.length ≤ c0_0) (h : spec_inTrack.f k l0_0 a0_1 a1 = some r) :
  Calls Tryz.prog 35 #[.agg #[.slice A0_0 l0_0.length c0_0, .int .i64 a0_1], .int .i64 a1] w fun e w' => e = .returned (.int .i64 r) ∧ Below w.heap.size w w' := by
 have hu25 := Tryz.underlying25;have HR0_0 := M_ hr0_0;have HC0_0 := M_ hc0_0;clear hr0_0 hc0_0;have HB := M_ (Below.refl w.heap.size w)
 have H : (spec_inTrack.l0 k a1 l0_0 (l0_0.length : Int) 0) = some r := h
 clear h
 have H' := M_ H
 clear H
 go_enter Tryz.func35, Tryz.ntmps35
 go_wp2_with (first | ((with_reducible refine gate_dst (N := 2) rfl ?_); refine bx_ (N := 2) (cs := #[.slice A0_0 l0_0.length c0_0, .int .i64 a0_1]) (t := 25) ?_; intro gb360 hg w3 hbox hb; have BK360 := M_ (hbox); have GW360 := M_ (gw_ HB hg); have GE360 := M_ (gw_ HB hg); replace HB := M_ (bS_ HB hb); clear hb hbox hg; obtain ⟨hcz4_0, hcz4_1, hfz4_0, hfz4_1⟩ := bq2_ BK360))
 go_loopg [10] k (fun kq v10 w' => ∃ (x10_1 : Int), v10 = .int .i64 x10_1 ∧ Aside0 (spec_inTrack.l0 kq a1 l0_0 (l0_0.length : Int) x10_1 = some r) ∧ Aside0 (kq ≤ k) ∧ Aside0 (w'.heap[gb360]? = some (.cells #[(.slice A0_0 l0_0.length c0_0), .int .i64 a0_1] 25 (0, 0))) ∧ Aside0 (Below w.heap.size w w'))
 case atStart => exact ⟨(0), eD_, H', ⟨Nat.le_refl _⟩, ⟨kU_ BK360⟩, ⟨bU_ HB⟩⟩
 case round =>
  clear H';obtain ⟨x10_1, rfl, HA, HK1, BK360, HB⟩ := hrel
  cases gk with
  | zero => exact absurd HA.out (by simp [spec_inTrack.l0])
  | succ k1 =>
   have H := HA.out;clear HA;simp only [spec_inTrack.l0] at H
   by_cases c5 : x10_1 < (l0_0.length : Int)
   ·rw [if_pos c5] at H
    have c5b0 : decide (x10_1 < (l0_0.length : Int)) = true := decide_eq_true c5
    clear c5
    by_cases c6 : 0 ≤ x10_1
    ·rw [if_pos c6] at H
     have c6b0 : decide (0 ≤ x10_1) = true := decide_eq_true c6
     clear c6
     by_cases c7 : x10_1 < (l0_0.length : Int)
     ·rw [if_pos c7] at H
      have c7b0 : decide (x10_1 < (l0_0.length : Int)) = true := decide_eq_true c7
      clear c7
      by_cases c8 : (rd l0_0 x10_1) = a1
      ·rw [if_pos c8] at H
       have c8b0 : ((rd l0_0 x10_1) == a1) = true := beq_iff_eq.mpr c8
       have c8b1 : ((rd l0_0 x10_1) != a1) = false := bne_eq_false_iff_eq.mpr c8
       clear c8;obtain rfl := Option.some.inj H
       have p361 : 0 ≤ (x10_1 : Int) := dT_
       have q361 : x10_1 < (l0_0.length : Int) := dT_
       obtain ⟨ad361, e361, hx361_0⟩ := Kd.at_int HR0_0.out x10_1 p361 q361;cases e361;replace hx361_0 := (HB.out.cell (World.block_lt_of_cell? w _ hx361_0)).trans hx361_0;replace p361 := eq_true p361;replace q361 := eq_true q361
       go_wp2
       go_ret
       exact ⟨eR_, bU_ HB⟩
      ·rw [if_neg c8] at H
       have c8b0 : ((rd l0_0 x10_1) == a1) = false := beq_eq_false_iff_ne.mpr c8
       have c8b1 : ((rd l0_0 x10_1) != a1) = true := bne_iff_ne.mpr c8
       have H' := M_ H
       clear H
       have p361 : 0 ≤ (x10_1 : Int) := dT_
       have q361 : x10_1 < (l0_0.length : Int) := dT_
       obtain ⟨ad361, e361, hx361_0⟩ := Kd.at_int HR0_0.out x10_1 p361 q361;cases e361;replace hx361_0 := (HB.out.cell (World.block_lt_of_cell? w _ hx361_0)).trans hx361_0;replace p361 := eq_true p361;replace q361 := eq_true q361
       go_wp2
       go_roundg k1
       case measure => have := HK1.out; omega
       case rel => exact ⟨(wrap64 (x10_1 + 1)), eD_, H', ⟨by have := HK1.out; omega⟩, ⟨kU_ BK360⟩, ⟨bU_ HB⟩⟩
     ·rw [if_neg c7] at H
      exact absurd H (by simp)
    ·rw [if_neg c6] at H
     exact absurd H (by simp)
   ·rw [if_neg c5] at H
    have c5b0 : decide (x10_1 < (l0_0.length : Int)) = false := decide_eq_false c5
    clear c5;obtain rfl := Option.some.inj H
    go_wp2
    go_ret
    exact ⟨eR_, bU_ HB⟩

def spec_l1Own.f (l0 : List Int) : Option (List Int) := (some (([] : List Int) : List Int)).bind fun y362 => (if y362.length + l0.length < 17592186044416 then (some (y362 ++ l0)) else (none))
set_option maxHeartbeats 8000000 in
set_option maxRecDepth 100000 in
theorem spec_l1Own.calls (A0 : Option Addr) (c0 : Nat) (l0 : List Int) (r : List Int) (w : World) (hr0 : Kd.C (Kd.int .i64) w A0 l0.length l0) (hc0 : l0.length ≤ c0) (h : spec_l1Own.f l0 = some r) :
  Calls Tryz.prog 37 #[.slice A0 l0.length c0] w fun e w' => ∃ v0_ : Value, e = .returned (v0_) ∧ Kd.R (Kd.int .i64) 3 w' w.heap.size (fun _ => True) v0_ r ∧ Below w.heap.size w w' := by
 have HR0 := M_ hr0;have HC0 := M_ hc0;clear hr0 hc0;have HB := M_ (Below.refl w.heap.size w)
 have H : ((some (([] : List Int) : List Int)).bind fun y362 => (if y362.length + l0.length < 17592186044416 then (some (y362 ++ l0)) else (none))) = some r := h
 clear h;obtain ⟨y362, hy362, H⟩ := ob_ H;(try dsimp only at H);have Ny362 := M_ hy362;clear hy362
 by_cases c2 : y362.length + l0.length < 17592186044416
 ·rw [if_pos c2] at H
  have LMc2 := M_ c2;clear c2;obtain ⟨y365, hy365⟩ : ∃ y_ : List Int, y_ = (y362 ++ l0) := ⟨_, rfl⟩
  replace H : (some y365) = some r := by first | (rw [hy365]; with_reducible exact H) | (have H2_ := (Option.bind_some _ _).symm.trans H; rw [hy365]; with_reducible exact H2_) | (have H2_ := (Option.bind_some _ _).symm.trans H; with_reducible exact H2_) | with_reducible exact H | (rw [hy365]; exact H) | exact H
  have Ny365 := M_ hy365;clear hy365;obtain rfl := Option.some.inj H
  go_enter Tryz.func37, Tryz.ntmps37
  go_wp2_with (first | ((with_reducible refine gate_dst (N := 3) rfl ?_); refine lt_ (Kd.int .i64) 3 (N := 3) (([] : List Int)) [] ri_ ?_; intro v363 w3 ho4 hb hg_ hnew_; clear hg_ hnew_; replace ho4 := rN_ Ny362 ho4; have HO364 := M_ (Kd.R_lower ho4 (bZ_ HB)); replace HB := M_ (bS_ HB hb); clear hb ho4) | ((with_reducible refine gate_builtin (b := .append) (xs := #[.tmp 3, .tmp 4]) rfl ?_); at_builtin; refine Kd.R_append_rows (Kd.int .i64) (w0 := w) w.heap.size rfl (.tmp 3) (.tmp 4) 23 3 (.int .i64 0) 8 rfl Tryz.underlying23 info3 rfl (by decide) (by omega) v363 y362 l0 _ _ _ (fun _ => True) (fun _ => False) rfl rfl ?aO ?aR (fun _ _ h => h) (fun _ h => h.elim) ?aF ?aB ?aS ?aL ?_; (case aR => exact cU_ (Kd.C_below HR0.out HB.out)); (case aB => exact (bU_ HB)); (case aF => exact (fun _ _ => trivial)); (case aO => exact (rU_ HO364.out)); (case aS => exact (bZ_ HB)); (case aL => have := LMc2.out; omega); intro v366 w5 ho hb hg hat; rw [← Ny365.out] at ho; replace HB := M_ (hb); have HO367 := M_ (ho); clear HO364; clear ho hb hg hat))
  go_ret
  exact ⟨_, eR_, rU_ HO367.out, bU_ HB⟩
 ·rw [if_neg c2] at H
  exact absurd H (by simp)

end Go.Proofs.YtpkklbjdhmpjnaaGreatDoor.PFnInstruments
