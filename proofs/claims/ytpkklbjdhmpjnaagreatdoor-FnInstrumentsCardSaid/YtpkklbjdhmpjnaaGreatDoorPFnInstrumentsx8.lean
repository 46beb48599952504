-- by wip/xprint.py, over the kit's printer
import Derived.Test.YtpkklbjdhmpjnaaGreatDoorPFnInstrumentsx0
import Derived.Test.YtpkklbjdhmpjnaaGreatDoorPFnInstrumentsx1
import Derived.Test.YtpkklbjdhmpjnaaGreatDoorPFnInstrumentsx3
import Derived.Test.YtpkklbjdhmpjnaaGreatDoorPFnInstrumentsx4
import Derived.Test.YtpkklbjdhmpjnaaGreatDoorPFnInstrumentsx5
import Derived.Test.YtpkklbjdhmpjnaaGreatDoorPFnInstrumentsx6
import Derived.Test.YtpkklbjdhmpjnaaGreatDoorPFnInstrumentsx7
namespace Go.Proofs.YtpkklbjdhmpjnaaGreatDoor.PFnInstruments
open Go.RowKit Go.Proofs.YtpkklbjdhmpjnaaGreatDoorW.PrintWords Go.Proofs.YtpkklbjdhmpjnaaGreatDoorW.PrintLast Go.Proofs.YtpkklbjdhmpjnaaGreatDoorW.PrintMore
attribute [local go_sem] max2_int min2_int max_two min_two max_three min_three max_four min_four   -- for this text's walks alone
set_option linter.unusedVariables false
set_option linter.unusedSimpArgs false

def spec_AddPitch.j0 : Nat → Int → Bool → List Int → Int → Option (List Int × Int × Bool)
 | 0, _, _, _, _ => none
 | k + 1, x1, x25, x369000, x369001 => if x25 = true then (some (([] : List Int), 0, false)) else ((spec_l1Own.f x369000).bind fun t373 => ((spec_l1Put.f k t373 x1).bind fun t376 => (some (t376, x369001, true))))
def spec_AddPitch.f (k : Nat) (l0_0 : List Int) (a0_1 : Int) (a1 : Int) : Option (List Int × Int × Bool) := (spec_inGood.f k l0_0 a0_1).bind fun t370 => (if t370 = true then ((spec_ntPitch.f a1).bind fun t371 => (if t371 = true then ((spec_inTrack.f k l0_0 a0_1 a1).bind fun t372 => (if t372 ≥ 0 then (spec_AddPitch.j0 k a1 true l0_0 a0_1) else (spec_AddPitch.j0 k a1 ((l0_0.length : Int) == 20) l0_0 a0_1))) else (spec_AddPitch.j0 k a1 true l0_0 a0_1))) else (spec_AddPitch.j0 k a1 true l0_0 a0_1))
theorem spec_AddPitch.mono_l : ∀ k, (∀ y0 y1 y2 y3, LeO (spec_AddPitch.j0 k y0 y1 y2 y3) (spec_AddPitch.j0 (k + 1) y0 y1 y2 y3))
 | 0 => fun _ _ _ _ r h => by simp [spec_AddPitch.j0] at h
 | k + 1 => by
  have ih0 := spec_AddPitch.mono_l k
  ·intro y0 y1 y2 y3
   unfold spec_AddPitch.j0
   have m0_ := @spec_inGood.mono;have m1_ := @spec_inTrack.mono;have m2_ := @spec_l1Put.mono;exact mo_
theorem spec_AddPitch.mono : ∀ a0 a1 a2 k, LeO (spec_AddPitch.f k a0 a1 a2) (spec_AddPitch.f (k + 1) a0 a1 a2) := by
 intro a0 a1 a2 k;have ih0 := spec_AddPitch.mono_l k
 unfold spec_AddPitch.f
 have m0_ := @spec_inGood.mono;have m1_ := @spec_inTrack.mono;have m2_ := @spec_l1Put.mono;exact mo_
def spec_AddPitch.T3 : Bool × List (List Nat × List Nat) := (true, [([], []), ([0], [0]), ([1], [1]), ([], []), ([2, 3, 2], [2, 3]), ([], []), ([5], [5]), ([4, 6], [4, 6]), ([7, 4, 0, 1, 2, 3, 4, 5, 6, 7], [7]), ([8, 0, 1, 2, 3, 4, 5, 6, 7, 8], [])])
def spec_AddPitch.B3 : List Nat := [0, 1, 3, 0, 15, 0, 32, 127, 255, 511]
theorem spec_AddPitch.tab3 : rtab .any (opsOf Tryz.f9 3) = spec_AddPitch.T3 := by kernel_rfl
theorem spec_AddPitch.bits3 : waitsOk spec_AddPitch.T3.2 spec_AddPitch.B3 = true := by kernel_rfl
set_option maxHeartbeats 8000000 in
set_option maxRecDepth 100000 in
theorem spec_AddPitch.calls (k : Nat) (A0_0 : Option Addr) (c0_0 : Nat) (l0_0 : List Int) (a0_1 : Int) (a1 : Int) (r1 : List Int) (r2 : Int) (r3 : Bool) (w : World) (hr0_0 : Kd.C (Kd.int .i64) w A0_0 l0_0.length l0_0) (hc0_0 : l0_0.length ≤ c0_0) (h : spec_AddPitch.f k l0_0 a0_1 a1 = some (r1, r2, r3)) :
  Calls Tryz.prog 9 #[.agg #[.slice A0_0 l0_0.length c0_0, .int .i64 a0_1], .int .i64 a1] w fun e w' => ∃ v0_ : Value, e = .returned (.tuple #[.agg #[v0_, .int .i64 r2], .bool r3]) ∧ Kd.R (Kd.int .i64) 3 w' w.heap.size (fun _ => True) v0_ r1 ∧ Below w.heap.size w w' := by
 have hu25 := Tryz.underlying25;have HR0_0 := M_ hr0_0;have HC0_0 := M_ hc0_0;clear hr0_0 hc0_0;have HB := M_ (Below.refl w.heap.size w)
 have H : ((spec_inGood.f k l0_0 a0_1).bind fun t370 => (if t370 = true then ((spec_ntPitch.f a1).bind fun t371 => (if t371 = true then ((spec_inTrack.f k l0_0 a0_1 a1).bind fun t372 => (if t372 ≥ 0 then (spec_AddPitch.j0 k a1 true l0_0 a0_1) else (spec_AddPitch.j0 k a1 ((l0_0.length : Int) == 20) l0_0 a0_1))) else (spec_AddPitch.j0 k a1 true l0_0 a0_1))) else (spec_AddPitch.j0 k a1 true l0_0 a0_1))) = some (r1, r2, r3) := h
 clear h;have HC3 := M_ H;clear H
 go_enter Tryz.func9, Tryz.ntmps9
 go_upto_region 1 with (first | ((with_reducible refine gate_dst (N := 2) rfl ?_); (try (refine gate_guard (by rfl) ?_; dsimp only)); refine bx_ (N := 2) (cs := #[.slice A0_0 l0_0.length c0_0, .int .i64 a0_1]) (t := 25) ?_; intro gb368 hg w4 hbox hb; have BK368 := M_ (hbox); have GW368 := M_ (gw_ HB hg); have GE368 := M_ (gw_ HB hg); replace HB := M_ (bS_ HB hb); clear hb hbox hg) | ((with_reducible refine gate_dst (N := 4) rfl ?_); (try (refine gate_guard (by rfl) ?_; dsimp only)); refine bx_ (N := 4) (cs := #[.slice none 0 0, .int .i64 0]) (t := 25) ?_; intro gb369 hg w5 hbox hb; have BK369 := M_ (hbox); have GW369 := M_ (gw_ HB hg); have GE369 := M_ (gw_ HB hg); replace HB := M_ (bS_ HB hb); have NB368_369 := M_ (nb_ BK368 hg); have NB369_368 := M_ ((by rw [hg]; exact Nat.ne_of_gt (blk_lt (kU_ BK368)) : gb369 ≠ gb368)); replace BK368 := M_ (kb_ BK368 hb); clear hb hbox hg))
 (try simp only [Act.put, la_, lb_, lc_])
 go_cut [25] (fun v25 wc => ∃ (kq : Nat) (x25_2 : Bool), v25 = .bool x25_2 ∧ Aside0 (spec_AddPitch.j0 kq a1 x25_2 l0_0 a0_1 = some (r1, r2, r3)) ∧ Aside0 (kq ≤ k) ∧ Aside0 (wc.heap[gb368]? = some (.cells #[(.slice A0_0 l0_0.length c0_0), .int .i64 a0_1] 25 (0, 0))) ∧ Aside0 (wc.heap[gb369]? = some (.cells #[(.slice none 0 0), .int .i64 0] 25 (0, 0))) ∧ Aside0 (Below w.heap.size w wc))
 case first =>
  have H := HC3.out;clear HC3;replace H := Option.bind_eq_some_iff.mp H;obtain ⟨t370, A60, H⟩ := H;(try dsimp only at H);have A6 := M_ A60;clear A60
  by_cases c7 : t370 = true
  ·subst c7
   rw [if_pos rfl] at H
   replace H := Option.bind_eq_some_iff.mp H;obtain ⟨t371, A80, H⟩ := H;(try dsimp only at H);have A8 := M_ A80;clear A80
   by_cases c9 : t371 = true
   ·subst c9
    rw [if_pos rfl] at H
    replace H := Option.bind_eq_some_iff.mp H;obtain ⟨t372, A100, H⟩ := H;(try dsimp only at H);have A10 := M_ A100;clear A100
    by_cases c11 : t372 ≥ 0
    ·rw [if_pos c11] at H
     have c11b0 : decide (0 ≤ t372) = true := decide_eq_true c11
     clear c11
     (first | rw [c11b0] | (simp only [i64_w, i32_w]; rw [c11b0]) | skip)
     have H' := M_ H
     clear H;have hnb12 := NB368_369.out;have hnc12 := NB369_368.out;obtain ⟨hcz13_0, hcz13_1, hfz13_0, hfz13_1⟩ := bq2_ BK368
     go_wp2_with (first | ((with_reducible refine gc_ 27 ?_); refine gM_ (some 7) Tryz.func27 #[.agg #[.slice A0_0 l0_0.length c0_0, .int .i64 a0_1]] ?_; (with_reducible refine (spec_inGood.calls k _ _ l0_0 a0_1 true _ ?side1 ?side2 A6.out).mono ?_); (case side1 => exact cU_ (Kd.C_below HR0_0.out HB.out)); (case side2 => exact HC0_0.out); rintro e w14 ⟨rfl, hb⟩; refine ⟨_, rfl, ?_⟩; replace BK368 := M_ (kb_ BK368 hb); replace BK369 := M_ (kb_ BK369 hb); replace HB := M_ (bS_ HB hb); clear hb) | (go_at_call 34; (with_reducible refine (spec_ntPitch.calls a1 true _ A8.out).mono ?_); rintro e w' ⟨rfl, ⟨nd, rfl⟩⟩; obtain ⟨hcz15_0, hcz15_1, hfz15_0, hfz15_1⟩ := bq2_ BK368) | (go_at_call 35; (with_reducible refine (spec_inTrack.calls k _ _ l0_0 a0_1 a1 t372 _ ?side1 ?side2 A10.out).mono ?_); (case side1 => exact cU_ (Kd.C_below HR0_0.out (bU_ HB))); (case side2 => exact HC0_0.out); rintro e w16 ⟨rfl, hb⟩; replace BK368 := M_ (kb_ BK368 hb); replace BK369 := M_ (kb_ BK369 hb); replace HB := M_ (bS_ HB hb); clear hb))
     go_meet
     case rel => exact ⟨_, (true), eD_, H', ⟨by first | omega | exact Nat.le_refl _⟩, ⟨kU_ BK368⟩, ⟨kU_ BK369⟩, ⟨bU_ HB⟩⟩
    ·rw [if_neg c11] at H
     have c11b0 : decide (0 ≤ t372) = false := decide_eq_false c11
     clear c11
     (first | rw [c11b0] | (simp only [i64_w, i32_w]; rw [c11b0]) | skip)
     have H' := M_ H
     clear H;have hnb17 := NB368_369.out;have hnc17 := NB369_368.out;obtain ⟨hcz18_0, hcz18_1, hfz18_0, hfz18_1⟩ := bq2_ BK368
     go_wp2_with (first | ((with_reducible refine gc_ 27 ?_); refine gM_ (some 7) Tryz.func27 #[.agg #[.slice A0_0 l0_0.length c0_0, .int .i64 a0_1]] ?_; (with_reducible refine (spec_inGood.calls k _ _ l0_0 a0_1 true _ ?side1 ?side2 A6.out).mono ?_); (case side1 => exact cU_ (Kd.C_below HR0_0.out HB.out)); (case side2 => exact HC0_0.out); rintro e w19 ⟨rfl, hb⟩; refine ⟨_, rfl, ?_⟩; replace BK368 := M_ (kb_ BK368 hb); replace BK369 := M_ (kb_ BK369 hb); replace HB := M_ (bS_ HB hb); clear hb) | (go_at_call 34; (with_reducible refine (spec_ntPitch.calls a1 true _ A8.out).mono ?_); rintro e w' ⟨rfl, ⟨nd, rfl⟩⟩; obtain ⟨hcz20_0, hcz20_1, hfz20_0, hfz20_1⟩ := bq2_ BK368) | (go_at_call 35; (with_reducible refine (spec_inTrack.calls k _ _ l0_0 a0_1 a1 t372 _ ?side1 ?side2 A10.out).mono ?_); (case side1 => exact cU_ (Kd.C_below HR0_0.out (bU_ HB))); (case side2 => exact HC0_0.out); rintro e w21 ⟨rfl, hb⟩; replace BK368 := M_ (kb_ BK368 hb); replace BK369 := M_ (kb_ BK369 hb); replace HB := M_ (bS_ HB hb); clear hb; obtain ⟨hcz22_0, hcz22_1, hfz22_0, hfz22_1⟩ := bq2_ BK368))
     go_meet
     case rel => exact ⟨_, (((l0_0.length : Int) == 20)), eD_, H', ⟨by first | omega | exact Nat.le_refl _⟩, ⟨kU_ BK368⟩, ⟨kU_ BK369⟩, ⟨bU_ HB⟩⟩
   ·replace c9 := Bool.eq_false_iff.mpr c9
    subst c9
    rw [if_neg (show ¬ (false = true) by decide)] at H
    have H' := M_ H
    clear H;have hnb23 := NB368_369.out;have hnc23 := NB369_368.out;obtain ⟨hcz24_0, hcz24_1, hfz24_0, hfz24_1⟩ := bq2_ BK368
    go_wp2_with (first | ((with_reducible refine gc_ 27 ?_); refine gM_ (some 7) Tryz.func27 #[.agg #[.slice A0_0 l0_0.length c0_0, .int .i64 a0_1]] ?_; (with_reducible refine (spec_inGood.calls k _ _ l0_0 a0_1 true _ ?side1 ?side2 A6.out).mono ?_); (case side1 => exact cU_ (Kd.C_below HR0_0.out HB.out)); (case side2 => exact HC0_0.out); rintro e w25 ⟨rfl, hb⟩; refine ⟨_, rfl, ?_⟩; replace BK368 := M_ (kb_ BK368 hb); replace BK369 := M_ (kb_ BK369 hb); replace HB := M_ (bS_ HB hb); clear hb) | (go_at_call 34; (with_reducible refine (spec_ntPitch.calls a1 false _ A8.out).mono ?_); rintro e w' ⟨rfl, ⟨nd, rfl⟩⟩))
    go_meet
    case rel => exact ⟨_, (true), eD_, H', ⟨by first | omega | exact Nat.le_refl _⟩, ⟨kU_ BK368⟩, ⟨kU_ BK369⟩, ⟨bU_ HB⟩⟩
  ·replace c7 := Bool.eq_false_iff.mpr c7
   subst c7
   rw [if_neg (show ¬ (false = true) by decide)] at H
   have H' := M_ H
   clear H;have hnb26 := NB368_369.out;have hnc26 := NB369_368.out;obtain ⟨hcz27_0, hcz27_1, hfz27_0, hfz27_1⟩ := bq2_ BK368
   go_wp2_with (first | ((with_reducible refine gc_ 27 ?_); refine gM_ (some 7) Tryz.func27 #[.agg #[.slice A0_0 l0_0.length c0_0, .int .i64 a0_1]] ?_; (with_reducible refine (spec_inGood.calls k _ _ l0_0 a0_1 false _ ?side1 ?side2 A6.out).mono ?_); (case side1 => exact cU_ (Kd.C_below HR0_0.out HB.out)); (case side2 => exact HC0_0.out); rintro e w28 ⟨rfl, hb⟩; refine ⟨_, rfl, ?_⟩; replace BK368 := M_ (kb_ BK368 hb); replace BK369 := M_ (kb_ BK369 hb); replace HB := M_ (bS_ HB hb); clear hb))
   go_meet
   case rel => exact ⟨_, (true), eD_, H', ⟨by first | omega | exact Nat.le_refl _⟩, ⟨kU_ BK368⟩, ⟨kU_ BK369⟩, ⟨bU_ HB⟩⟩
 case rest =>
  clear HC3;obtain ⟨kq, x25_2, rfl, HA, HJ2, BK368, BK369, HB⟩ := hcut
  cases kq with
  | zero => exact absurd HA.out (by simp [spec_AddPitch.j0])
  | succ kj2 =>
   have H := HA.out;clear HA;simp only [spec_AddPitch.j0] at H
   by_cases c29 : x25_2 = true
   ·subst c29
    rw [if_pos rfl] at H
    simp only [Option.some.injEq, Prod.mk.injEq] at H;obtain ⟨rfl, rfl, rfl⟩ := H;have hnb30 := NB369_368.out;have hnc30 := NB368_369.out;obtain ⟨hcz31_0, hcz31_1, hfz31_0, hfz31_1⟩ := bq2_ BK369
    go_wp2
    refine bodyPost_ret (results_ct rfl _ _ gb369 25 #[.slice none 0 0, .int .i64 0] (0, 0) _ rfl (by (with_reducible repeat (first | refine kn_ ?_ _ | refine kd_ ?_ | refine ka_ ?_ _)); refine blk_put (cs := #[.slice none 0 0, .int .i64 0]) ?_ 1 _ rfl; (with_reducible repeat (first | refine kn_ ?_ _ | refine kd_ ?_ | refine ka_ ?_ _)); refine blk_put (cs := #[.slice none 0 0, .int .i64 0]) ?_ 0 _ rfl; (with_reducible repeat (first | refine kn_ ?_ _ | refine kd_ ?_ | refine ka_ ?_ _)); exact BK369.out) Tryz.underlying25 rfl (by kernel_rfl)) rfl ?_;exact ⟨_, eR_, by first | exact Kd.R_nil _ _ _ _ _ | exact Kd.N_nil _ _ _ _ _ | exact Kd.V_nil _ _ _ _ _ | exact Kd.Q_nil _ _ _ _ _ | exact Kd.S_nil _ _ _ _ _, bU_ HB⟩
   ·replace c29 := Bool.eq_false_iff.mpr c29
    subst c29
    rw [if_neg (show ¬ (false = true) by decide)] at H
    replace H := Option.bind_eq_some_iff.mp H;obtain ⟨t373, A320, H⟩ := H;(try dsimp only at H);have A32 := M_ A320;clear A320;replace H := Option.bind_eq_some_iff.mp H;obtain ⟨t376, A330, H⟩ := H;replace H : (some (t376, a0_1, true)) = some (r1, r2, r3) := H;have A33 := M_ A330;clear A330;simp only [Option.some.injEq, Prod.mk.injEq] at H;obtain ⟨rfl, rfl, rfl⟩ := H
    try go_wp2
    replace BK368 := M_ (kd_ BK368.out); replace BK369 := M_ (kd_ BK369.out); replace HB := M_ (b1_ HB.out);refine start_ (n := 10) (S := fun w' => w'.cell? ⟨gb368, 0, none⟩ = some (.slice A0_0 l0_0.length c0_0) ∧ w'.cell? ⟨gb368, 1, none⟩ = some (.int .i64 a0_1)) (ds := []) #[F,F,F,F,F,F,F,F,F,F] (by kernel_rfl) rfl rfl ⟨bc0_ BK368, bc1_ BK368⟩ (fun hHeld => ?_); refine with_tabW spec_AddPitch.tab3 spec_AddPitch.bits3 (fun HT_ HW_ => ?_);generalize wc.drew = w34 at BK368 BK369 HB hHeld ⊢;refine pR_ (i := 0) (N := some 27) #[T,F,F,F,F,F,F,F,F,F] ?_;refine pR_ (i := 3) (N := some 30) #[T,F,F,T,F,F,F,F,F,F] ?_;refine pR_ (i := 5) (N := some 32) #[T,F,F,T,F,T,F,F,F,F] ?_;refine take_ (i := 1) (N := some 28) (v := ?_) (a' := ?_) #[T,T,F,T,F,T,F,F,F,F] rfl rfl (take_ofW HT_.out HW_.out (by kernel_rfl)) (fun _ _ _ h => h) (Or.inl ⟨by rfl, ?_⟩) hHeld ?_ ?_;rotate_left
    ·rintro w' ⟨s0, s1⟩
     go_simp;with_reducible rfl
    rotate_left
    ·simp only [Act.put, la_, lb_, lc_, i64_w, i32_w]
     rfl
    refine take_ (i := 6) (N := some 33) (v := ?_) (a' := ?_) #[T,T,F,T,F,T,T,F,F,F] rfl rfl (take_ofW HT_.out HW_.out (by kernel_rfl)) (fun _ _ _ h => h) (Or.inl ⟨by rfl, ?_⟩) hHeld ?_ ?_;rotate_left
    ·rintro w' ⟨s0, s1⟩
     go_simp;with_reducible rfl
    rotate_left
    ·simp only [Act.put, la_, lb_, lc_, i64_w, i32_w]
     rfl
    refine one_ (i := 2) (N := some 29) #[T,T,T,T,F,T,T,F,F,F] rfl rfl (one_of HT_.out (by kernel_rfl)) (by decide) (fun K hK => ?_);refine gS_ Tryz.func37 #[.slice A0_0 l0_0.length c0_0] ?_
    with_reducible refine (spec_l1Own.calls _ _ l0_0 t373 _ ?side1 ?side2 A32.out).mono ?_
    (case side1 => exact cU_ (Kd.C_below HR0_0.out HB.out))
    (case side2 => exact HC0_0.out)
    rintro e w35 ⟨v374, rfl, ho0, hb⟩;refine ⟨_, rfl, ?_⟩;have HO375 := M_ (Kd.R_lower ho0 (bZ_ HB)); replace BK368 := M_ (kb_ BK368 hb); replace BK369 := M_ (kb_ BK369 hb); replace HB := M_ (bS_ HB hb);clear hb ho0;obtain ⟨Ao36, co36, eo36⟩ := Kd.R_slice HO375.out
    (first | subst eo36 | (injection eo36 with f1_ f2_ f3_; have f4_ := f1_.symm; have f5_ := f3_.symm; clear f1_ f2_ f3_; subst f4_; subst f5_))
    refine hK.out _ _ ⟨bc0_ BK368, bc1_ BK368⟩ (fun hHeld => ?_);clear hK K;refine nM_ (some 29) ?_;refine one_ (i := 4) (N := some 31) #[T,T,T,T,T,T,T,F,F,F] rfl rfl (one_of HT_.out (by kernel_rfl)) (by decide) (fun K hK => ?_);refine gS_ Tryz.func36 #[.slice Ao36 t373.length co36, .int .i64 a1] ?_
    with_reducible refine (spec_l1Put.calls kj2 (fun k_ => some k_ = (.slice Ao36 t373.length co36 : Value).ownBlock) (.slice Ao36 t373.length co36) t373 a1 t376 w _ ?side1 ?side2 A33.out).mono ?_
    (case side1 => exact bU_ HB)
    (case side2 => exact Kd.R_tight rfl HO375.out)
    rintro e w37 ⟨v377, rfl, ho0, hb, hkp⟩;refine ⟨_, rfl, ?_⟩;replace BK368 := M_ (blk_kept (kU_ BK368) hkp (fun hs_ => (fun e_ => (Kd.R_ne HO375.out BK368.out (by decide)) e_) hs_)); replace BK369 := M_ (blk_kept (kU_ BK369) hkp (fun hs_ => (fun e_ => (Kd.R_ne HO375.out BK369.out (by decide)) e_) hs_)); have HO378 := M_ (rm_ (ok' := fun k_ => True) ho0 (fun k_ hk_ => trivial)); replace HB := M_ (hb); clear HO375
    (try clear hb)
    (try clear hkp)
    (try clear ho0);obtain ⟨Ao38, co38, eo38⟩ := Kd.R_slice HO378.out
    (first | subst eo38 | (injection eo38 with f1_ f2_ f3_; have f4_ := f1_.symm; have f5_ := f3_.symm; clear f1_ f2_ f3_; subst f4_; subst f5_))
    refine hK.out _ _ ⟨bc0_ BK368, bc1_ BK368⟩ (fun hHeld => ?_);clear hK K;refine nM_ (some 31) ?_;refine pR_ (i := 7) (N := some 34) #[T,T,T,T,T,T,T,T,F,F] ?_;refine one_ (i := 8) (N := none) #[T,T,T,T,T,T,T,T,T,F] rfl rfl (one_of HT_.out (by kernel_rfl)) (by decide) (fun K hK => ?_)
    have hs39 : w37.cell? ⟨gb369, 0, none⟩ = some (.slice none 0 0) := bc0_ BK369
    have hfs39 := bf_ BK369 0;have hns39_0 := NB368_369.out;have hms39_0 := NB369_368.out
    have hs40 : w37.cell? ⟨gb369, 1, none⟩ = some (.int .i64 0) := bc1_ BK369
    have hfs40 := bf_ BK369 1;have hns40_0 := NB368_369.out;have hms40_0 := NB369_368.out;refine skip_ (w1 := ?_) (by rfl) rfl ?_ ?_;rotate_left
    ·go_simp
     rfl
    refine hK.out _ _ ⟨((cell_far (p := ⟨gb369, _, none⟩) NB368_369.out _).trans (((cell_far (p := ⟨gb369, _, none⟩) NB368_369.out _).trans (hHeld.1)))), ((cell_far (p := ⟨gb369, _, none⟩) NB368_369.out _).trans (((cell_far (p := ⟨gb369, _, none⟩) NB368_369.out _).trans (hHeld.2))))⟩ (fun hHeld => ?_);clear hK K;refine pR_ (i := 9) (N := some 5) #[T,T,T,T,T,T,T,T,T,T] ?_;refine done_ (done_of HT_.out (by kernel_rfl)) ?_
    try go_wp2
    refine bodyPost_ret (results_ct rfl _ _ gb369 25 #[.slice Ao38 t376.length co38, .int .i64 a0_1] (0, 0) _ rfl (by (with_reducible repeat (first | refine kn_ ?_ _ | refine kd_ ?_ | refine ka_ ?_ _)); refine blk_put (cs := #[.slice Ao38 t376.length co38, .int .i64 0]) ?_ 1 _ rfl; (with_reducible repeat (first | refine kn_ ?_ _ | refine kd_ ?_ | refine ka_ ?_ _)); refine blk_put (cs := #[.slice none 0 0, .int .i64 0]) ?_ 0 _ rfl; (with_reducible repeat (first | refine kn_ ?_ _ | refine kd_ ?_ | refine ka_ ?_ _)); exact BK369.out) Tryz.underlying25 rfl (by kernel_rfl)) rfl ?_;exact ⟨_, eR_, by (with_reducible repeat (first | apply ra_ | apply rn_ | apply rd_)); exact rm_ (Kd.R_far (p := ⟨gb369, 1, none⟩) (Kd.R_far (p := ⟨gb369, 0, none⟩) (rt_ HO378.out BK369.out (by decide)) (fun _ hk => hk.2) (.slice Ao38 t376.length co38)) (fun _ hk => hk.2) (.int .i64 a0_1)) (fun _ hk => trivial), bU_ HB⟩

def impl_TrackOf.j0 : Nat → Int → Bool → List Int → Int → Option (Int × Bool)
 | 0, _, _, _, _ => none
 | k + 1, x1, x14, x380000, x380001 => if x14 = true then (some (0, false)) else ((slices_Index_int_int.f k x380000 x1).bind fun t382 => (if t382 < 0 then (some (0, false)) else (some (t382, true))))
def impl_TrackOf.f (k : Nat) (l0_0 : List Int) (a0_1 : Int) (a1 : Int) : Option (Int × Bool) := (impl_IsInstrument.f k l0_0 a0_1).bind fun t380 => (if t380 = true then ((impl_isPitch.f a1).bind fun t381 => (impl_TrackOf.j0 k a1 (!t381) l0_0 a0_1)) else (impl_TrackOf.j0 k a1 true l0_0 a0_1))
theorem impl_TrackOf.mono_l : ∀ k, (∀ y0 y1 y2 y3, LeO (impl_TrackOf.j0 k y0 y1 y2 y3) (impl_TrackOf.j0 (k + 1) y0 y1 y2 y3))
 | 0 => fun _ _ _ _ r h => by simp [impl_TrackOf.j0] at h
 | k + 1 => by
  have ih0 := impl_TrackOf.mono_l k
  ·intro y0 y1 y2 y3
   unfold impl_TrackOf.j0
   have m0_ := @impl_IsInstrument.mono;have m1_ := @slices_Index_int_int.mono;exact mo_
theorem impl_TrackOf.mono : ∀ a0 a1 a2 k, LeO (impl_TrackOf.f k a0 a1 a2) (impl_TrackOf.f (k + 1) a0 a1 a2) := by
 intro a0 a1 a2 k;have ih0 := impl_TrackOf.mono_l k
 unfold impl_TrackOf.f
 have m0_ := @impl_IsInstrument.mono;have m1_ := @slices_Index_int_int.mono;exact mo_
set_option maxHeartbeats 8000000 in
set_option maxRecDepth 100000 in
theorem impl_TrackOf.calls (k : Nat) (A0_0 : Option Addr) (c0_0 : Nat) (l0_0 : List Int) (a0_1 : Int) (a1 : Int) (r1 : Int) (r2 : Bool) (w : World) (hr0_0 : Kd.C (Kd.int .i64) w A0_0 l0_0.length l0_0) (hc0_0 : l0_0.length ≤ c0_0) (h : impl_TrackOf.f k l0_0 a0_1 a1 = some (r1, r2)) :
  Calls Tryz.prog 10 #[.agg #[.slice A0_0 l0_0.length c0_0, .int .i64 a0_1], .int .i64 a1] w fun e w' => e = .returned (.tuple #[.int .i64 r1, .bool r2]) ∧ Below w.heap.size w w' := by
 have hu25 := Tryz.underlying25;have HR0_0 := M_ hr0_0;have HC0_0 := M_ hc0_0;clear hr0_0 hc0_0;have HB := M_ (Below.refl w.heap.size w)
 have H : ((impl_IsInstrument.f k l0_0 a0_1).bind fun t380 => (if t380 = true then ((impl_isPitch.f a1).bind fun t381 => (impl_TrackOf.j0 k a1 (!t381) l0_0 a0_1)) else (impl_TrackOf.j0 k a1 true l0_0 a0_1))) = some (r1, r2) := h
 clear h;have HC3 := M_ H;clear H
 go_enter Tryz.func10, Tryz.ntmps10
 go_upto_region 1 with (first | ((with_reducible refine gate_dst (N := 2) rfl ?_); refine bx_ (N := 2) (cs := #[.slice A0_0 l0_0.length c0_0, .int .i64 a0_1]) (t := 25) ?_; intro gb379 hg w4 hbox hb; have BK379 := M_ (hbox); have GW379 := M_ (gw_ HB hg); have GE379 := M_ (gw_ HB hg); replace HB := M_ (bS_ HB hb); clear hb hbox hg))
 (try simp only [Act.put, la_, lb_, lc_])
 go_cut [14] (fun v14 wc => ∃ (kq : Nat) (x14_2 : Bool), v14 = .bool x14_2 ∧ Aside0 (impl_TrackOf.j0 kq a1 x14_2 l0_0 a0_1 = some (r1, r2)) ∧ Aside0 (kq ≤ k) ∧ Aside0 (wc.heap[gb379]? = some (.cells #[(.slice A0_0 l0_0.length c0_0), .int .i64 a0_1] 25 (0, 0))) ∧ Aside0 (Below w.heap.size w wc))
 case first =>
  have H := HC3.out;clear HC3;replace H := Option.bind_eq_some_iff.mp H;obtain ⟨t380, A50, H⟩ := H;(try dsimp only at H);have A5 := M_ A50;clear A50
  by_cases c6 : t380 = true
  ·subst c6
   rw [if_pos rfl] at H
   replace H := Option.bind_eq_some_iff.mp H;obtain ⟨t381, A70, H⟩ := H;(try dsimp only at H);have A7 := M_ A70;clear A70
   have H' := M_ H
   clear H;obtain ⟨hcz8_0, hcz8_1, hfz8_0, hfz8_1⟩ := bq2_ BK379
   go_wp2_with (first | ((with_reducible refine gc_ 23 ?_); refine gM_ (some 8) Tryz.func23 #[.agg #[.slice A0_0 l0_0.length c0_0, .int .i64 a0_1]] ?_; (with_reducible refine (impl_IsInstrument.calls k _ _ l0_0 a0_1 true _ ?side1 ?side2 A5.out).mono ?_); (case side1 => exact cU_ (Kd.C_below HR0_0.out HB.out)); (case side2 => exact HC0_0.out); rintro e w9 ⟨rfl, hb⟩; refine ⟨_, rfl, ?_⟩; replace BK379 := M_ (kb_ BK379 hb); replace HB := M_ (bS_ HB hb); clear hb) | (go_at_call 30; (with_reducible refine (impl_isPitch.calls a1 t381 _ A7.out).mono ?_); rintro e w' ⟨rfl, ⟨nd, rfl⟩⟩))
   go_meet
   case rel => exact ⟨_, (!t381), eD_, H', ⟨by first | omega | exact Nat.le_refl _⟩, ⟨kU_ BK379⟩, ⟨bU_ HB⟩⟩
  ·replace c6 := Bool.eq_false_iff.mpr c6
   subst c6
   rw [if_neg (show ¬ (false = true) by decide)] at H
   have H' := M_ H
   clear H;obtain ⟨hcz10_0, hcz10_1, hfz10_0, hfz10_1⟩ := bq2_ BK379
   go_wp2_with (first | ((with_reducible refine gc_ 23 ?_); refine gM_ (some 8) Tryz.func23 #[.agg #[.slice A0_0 l0_0.length c0_0, .int .i64 a0_1]] ?_; (with_reducible refine (impl_IsInstrument.calls k _ _ l0_0 a0_1 false _ ?side1 ?side2 A5.out).mono ?_); (case side1 => exact cU_ (Kd.C_below HR0_0.out HB.out)); (case side2 => exact HC0_0.out); rintro e w11 ⟨rfl, hb⟩; refine ⟨_, rfl, ?_⟩; replace BK379 := M_ (kb_ BK379 hb); replace HB := M_ (bS_ HB hb); clear hb))
   go_meet
   case rel => exact ⟨_, (true), eD_, H', ⟨by first | omega | exact Nat.le_refl _⟩, ⟨kU_ BK379⟩, ⟨bU_ HB⟩⟩
 case rest =>
  clear HC3;obtain ⟨kq, x14_2, rfl, HA, HJ2, BK379, HB⟩ := hcut
  cases kq with
  | zero => exact absurd HA.out (by simp [impl_TrackOf.j0])
  | succ kj2 =>
   have H := HA.out;clear HA;simp only [impl_TrackOf.j0] at H
   by_cases c12 : x14_2 = true
   ·subst c12
    rw [if_pos rfl] at H
    simp only [Option.some.injEq, Prod.mk.injEq] at H;obtain ⟨rfl, rfl⟩ := H
    go_wp2
    go_ret2
    exact ⟨eR_, bU_ HB⟩
   ·replace c12 := Bool.eq_false_iff.mpr c12
    subst c12
    rw [if_neg (show ¬ (false = true) by decide)] at H
    replace H := Option.bind_eq_some_iff.mp H;obtain ⟨t382, A130, H⟩ := H;(try dsimp only at H);have A13 := M_ A130;clear A130
    by_cases c14 : t382 < 0
    ·rw [if_pos c14] at H
     have c14b0 : decide (t382 < 0) = true := decide_eq_true c14
     clear c14;simp only [Option.some.injEq, Prod.mk.injEq] at H;obtain ⟨rfl, rfl⟩ := H;obtain ⟨hcz15_0, hcz15_1, hfz15_0, hfz15_1⟩ := bq2_ BK379
     go_wp2_with (first | ((with_reducible refine gc_ 38 ?_); refine gM_ (some 18) Tryz.func38 #[.slice A0_0 l0_0.length c0_0, .int .i64 a1] ?_; (with_reducible refine (slices_Index_int_int.calls kj2 _ _ l0_0 a1 t382 _ ?side1 ?side2 A13.out).mono ?_); (case side1 => exact cU_ (Kd.C_below HR0_0.out HB.out)); (case side2 => exact HC0_0.out); rintro e w' ⟨rfl, ⟨nd, rfl⟩⟩; refine ⟨_, rfl, ?_⟩))
     go_ret2
     exact ⟨eR_, bU_ HB⟩
    ·rw [if_neg c14] at H
     have c14b0 : decide (t382 < 0) = false := decide_eq_false c14
     clear c14;simp only [Option.some.injEq, Prod.mk.injEq] at H;obtain ⟨rfl, rfl⟩ := H;obtain ⟨hcz16_0, hcz16_1, hfz16_0, hfz16_1⟩ := bq2_ BK379
     go_wp2_with (first | ((with_reducible refine gc_ 38 ?_); refine gM_ (some 18) Tryz.func38 #[.slice A0_0 l0_0.length c0_0, .int .i64 a1] ?_; (with_reducible refine (slices_Index_int_int.calls kj2 _ _ l0_0 a1 t382 _ ?side1 ?side2 A13.out).mono ?_); (case side1 => exact cU_ (Kd.C_below HR0_0.out HB.out)); (case side2 => exact HC0_0.out); rintro e w' ⟨rfl, ⟨nd, rfl⟩⟩; refine ⟨_, rfl, ?_⟩))
     go_ret2
     exact ⟨eR_, bU_ HB⟩

def spec_TrackOf.f (k : Nat) (l0_0 : List Int) (a0_1 : Int) (a1 : Int) : Option (Int × Bool) := (spec_inGood.f k l0_0 a0_1).bind fun t384 => (if t384 = true then ((spec_ntPitch.f a1).bind fun t385 => (if t385 = true then ((spec_inTrack.f k l0_0 a0_1 a1).bind fun t386 => (if t386 < 0 then (some (0, false)) else ((spec_inTrack.f k l0_0 a0_1 a1).bind fun t387 => (some (t387, true))))) else (some (0, false)))) else (some (0, false)))
theorem spec_TrackOf.mono : ∀ a0 a1 a2 k, LeO (spec_TrackOf.f k a0 a1 a2) (spec_TrackOf.f (k + 1) a0 a1 a2) := by
 intro a0 a1 a2 k
 unfold spec_TrackOf.f
 have m0_ := @spec_inGood.mono;have m1_ := @spec_inTrack.mono;exact mo_
set_option maxHeartbeats 8000000 in
set_option maxRecDepth 100000 in
theorem spec_TrackOf.calls (k : Nat) (A0_0 : Option Addr) (c0_0 : Nat) (l0_0 : List Int) (a0_1 : Int) (a1 : Int) (r1 : Int) (r2 : Bool) (w : World) (hr0_0 : Kd.C (Kd.int .i64) w A0_0 l0_0.length l0_0) (hc0_0 : l0_0.length ≤ c0_0) (h : spec_TrackOf.f k l0_0 a0_1 a1 = some (r1, r2)) :
  Calls Tryz.prog 11 #[.agg #[.slice A0_0 l0_0.length c0_0, .int .i64 a0_1], .int .i64 a1] w fun e w' => e = .returned (.tuple #[.int .i64 r1, .bool r2]) ∧ Below w.heap.size w w' := by
 have hu25 := Tryz.underlying25;have HR0_0 := M_ hr0_0;have HC0_0 := M_ hc0_0;clear hr0_0 hc0_0;have HB := M_ (Below.refl w.heap.size w)
 have H : ((spec_inGood.f k l0_0 a0_1).bind fun t384 => (if t384 = true then ((spec_ntPitch.f a1).bind fun t385 => (if t385 = true then ((spec_inTrack.f k l0_0 a0_1 a1).bind fun t386 => (if t386 < 0 then (some (0, false)) else ((spec_inTrack.f k l0_0 a0_1 a1).bind fun t387 => (some (t387, true))))) else (some (0, false)))) else (some (0, false)))) = some (r1, r2) := h
 clear h;replace H := Option.bind_eq_some_iff.mp H;obtain ⟨t384, A30, H⟩ := H;(try dsimp only at H);have A3 := M_ A30;clear A30
 by_cases c4 : t384 = true
 ·subst c4
  rw [if_pos rfl] at H
  replace H := Option.bind_eq_some_iff.mp H;obtain ⟨t385, A50, H⟩ := H;(try dsimp only at H);have A5 := M_ A50;clear A50
  by_cases c6 : t385 = true
  ·subst c6
   rw [if_pos rfl] at H
   replace H := Option.bind_eq_some_iff.mp H;obtain ⟨t386, A70, H⟩ := H;(try dsimp only at H);have A7 := M_ A70;clear A70
   by_cases c8 : t386 < 0
   ·rw [if_pos c8] at H
    have c8b0 : decide (t386 < 0) = true := decide_eq_true c8
    clear c8;simp only [Option.some.injEq, Prod.mk.injEq] at H;obtain ⟨rfl, rfl⟩ := H
    go_enter Tryz.func11, Tryz.ntmps11
    go_wp2_with (first | ((with_reducible refine gate_dst (N := 2) rfl ?_); refine bx_ (N := 2) (cs := #[.slice A0_0 l0_0.length c0_0, .int .i64 a0_1]) (t := 25) ?_; intro gb383 hg w9 hbox hb; have BK383 := M_ (hbox); have GW383 := M_ (gw_ HB hg); have GE383 := M_ (gw_ HB hg); replace HB := M_ (bS_ HB hb); clear hb hbox hg; obtain ⟨hcz10_0, hcz10_1, hfz10_0, hfz10_1⟩ := bq2_ BK383) | ((with_reducible refine gc_ 27 ?_); refine gM_ (some 7) Tryz.func27 #[.agg #[.slice A0_0 l0_0.length c0_0, .int .i64 a0_1]] ?_; (with_reducible refine (spec_inGood.calls k _ _ l0_0 a0_1 true _ ?side1 ?side2 A3.out).mono ?_); (case side1 => exact cU_ (Kd.C_below HR0_0.out HB.out)); (case side2 => exact HC0_0.out); rintro e w11 ⟨rfl, hb⟩; refine ⟨_, rfl, ?_⟩; replace BK383 := M_ (kb_ BK383 hb); replace HB := M_ (bS_ HB hb); clear hb) | (go_at_call 34; (with_reducible refine (spec_ntPitch.calls a1 true _ A5.out).mono ?_); rintro e w' ⟨rfl, ⟨nd, rfl⟩⟩; obtain ⟨hcz12_0, hcz12_1, hfz12_0, hfz12_1⟩ := bq2_ BK383) | (go_at_call 35; (with_reducible refine (spec_inTrack.calls k _ _ l0_0 a0_1 a1 t386 _ ?side1 ?side2 A7.out).mono ?_); (case side1 => exact cU_ (Kd.C_below HR0_0.out (bU_ HB))); (case side2 => exact HC0_0.out); rintro e w13 ⟨rfl, hb⟩; replace BK383 := M_ (kb_ BK383 hb); replace HB := M_ (bS_ HB hb); clear hb))
    go_ret2
    exact ⟨eR_, bU_ HB⟩
   ·rw [if_neg c8] at H
    have c8b0 : decide (t386 < 0) = false := decide_eq_false c8
    clear c8;replace H := Option.bind_eq_some_iff.mp H;obtain ⟨t387, A140, H⟩ := H;replace H : (some (t387, true)) = some (r1, r2) := H;have A14 := M_ A140;clear A140;simp only [Option.some.injEq, Prod.mk.injEq] at H;obtain ⟨rfl, rfl⟩ := H
    go_enter Tryz.func11, Tryz.ntmps11
    go_wp2_with (first | ((with_reducible refine gate_dst (N := 2) rfl ?_); refine bx_ (N := 2) (cs := #[.slice A0_0 l0_0.length c0_0, .int .i64 a0_1]) (t := 25) ?_; intro gb383 hg w15 hbox hb; have BK383 := M_ (hbox); have GW383 := M_ (gw_ HB hg); have GE383 := M_ (gw_ HB hg); replace HB := M_ (bS_ HB hb); clear hb hbox hg; obtain ⟨hcz16_0, hcz16_1, hfz16_0, hfz16_1⟩ := bq2_ BK383) | ((with_reducible refine gc_ 27 ?_); refine gM_ (some 7) Tryz.func27 #[.agg #[.slice A0_0 l0_0.length c0_0, .int .i64 a0_1]] ?_; (with_reducible refine (spec_inGood.calls k _ _ l0_0 a0_1 true _ ?side1 ?side2 A3.out).mono ?_); (case side1 => exact cU_ (Kd.C_below HR0_0.out HB.out)); (case side2 => exact HC0_0.out); rintro e w17 ⟨rfl, hb⟩; refine ⟨_, rfl, ?_⟩; replace BK383 := M_ (kb_ BK383 hb); replace HB := M_ (bS_ HB hb); clear hb) | (go_at_call 34; (with_reducible refine (spec_ntPitch.calls a1 true _ A5.out).mono ?_); rintro e w' ⟨rfl, ⟨nd, rfl⟩⟩; obtain ⟨hcz18_0, hcz18_1, hfz18_0, hfz18_1⟩ := bq2_ BK383) | (go_at_call 35; (with_reducible refine (spec_inTrack.calls k _ _ l0_0 a0_1 a1 t386 _ ?side1 ?side2 A7.out).mono ?_); (case side1 => exact cU_ (Kd.C_below HR0_0.out (bU_ HB))); (case side2 => exact HC0_0.out); rintro e w19 ⟨rfl, hb⟩; replace BK383 := M_ (kb_ BK383 hb); replace HB := M_ (bS_ HB hb); clear hb; obtain ⟨hcz20_0, hcz20_1, hfz20_0, hfz20_1⟩ := bq2_ BK383) | ((with_reducible refine gc_ 35 ?_); refine gM_ (some 22) Tryz.func35 #[.agg #[.slice A0_0 l0_0.length c0_0, .int .i64 a0_1], .int .i64 a1] ?_; (with_reducible refine (spec_inTrack.calls k _ _ l0_0 a0_1 a1 t387 _ ?side1 ?side2 A14.out).mono ?_); (case side1 => exact cU_ (Kd.C_below HR0_0.out HB.out)); (case side2 => exact HC0_0.out); rintro e w21 ⟨rfl, hb⟩; refine ⟨_, rfl, ?_⟩; replace BK383 := M_ (kb_ BK383 hb); replace HB := M_ (bS_ HB hb); clear hb))
    go_ret2
    exact ⟨eR_, bU_ HB⟩
  ·replace c6 := Bool.eq_false_iff.mpr c6
   subst c6
   rw [if_neg (show ¬ (false = true) by decide)] at H
   simp only [Option.some.injEq, Prod.mk.injEq] at H;obtain ⟨rfl, rfl⟩ := H
   go_enter Tryz.func11, Tryz.ntmps11
   go_wp2_with (first | ((with_reducible refine gate_dst (N := 2) rfl ?_); refine bx_ (N := 2) (cs := #[.slice A0_0 l0_0.length c0_0, .int .i64 a0_1]) (t := 25) ?_; intro gb383 hg w22 hbox hb; have BK383 := M_ (hbox); have GW383 := M_ (gw_ HB hg); have GE383 := M_ (gw_ HB hg); replace HB := M_ (bS_ HB hb); clear hb hbox hg; obtain ⟨hcz23_0, hcz23_1, hfz23_0, hfz23_1⟩ := bq2_ BK383) | ((with_reducible refine gc_ 27 ?_); refine gM_ (some 7) Tryz.func27 #[.agg #[.slice A0_0 l0_0.length c0_0, .int .i64 a0_1]] ?_; (with_reducible refine (spec_inGood.calls k _ _ l0_0 a0_1 true _ ?side1 ?side2 A3.out).mono ?_); (case side1 => exact cU_ (Kd.C_below HR0_0.out HB.out)); (case side2 => exact HC0_0.out); rintro e w24 ⟨rfl, hb⟩; refine ⟨_, rfl, ?_⟩; replace BK383 := M_ (kb_ BK383 hb); replace HB := M_ (bS_ HB hb); clear hb) | (go_at_call 34; (with_reducible refine (spec_ntPitch.calls a1 false _ A5.out).mono ?_); rintro e w' ⟨rfl, ⟨nd, rfl⟩⟩))
   go_ret2
   exact ⟨eR_, bU_ HB⟩
 ·replace c4 := Bool.eq_false_iff.mpr c4
  subst c4
  rw [if_neg (show ¬ (false = true) by decide)] at H
  simp only [Option.some.injEq, Prod.mk.injEq] at H;obtain ⟨rfl, rfl⟩ := H
  go_enter Tryz.func11, Tryz.ntmps11
  go_wp2_with (first | ((with_reducible refine gate_dst (N := 2) rfl ?_); refine bx_ (N := 2) (cs := #[.slice A0_0 l0_0.length c0_0, .int .i64 a0_1]) (t := 25) ?_; intro gb383 hg w25 hbox hb; have BK383 := M_ (hbox); have GW383 := M_ (gw_ HB hg); have GE383 := M_ (gw_ HB hg); replace HB := M_ (bS_ HB hb); clear hb hbox hg; obtain ⟨hcz26_0, hcz26_1, hfz26_0, hfz26_1⟩ := bq2_ BK383) | ((with_reducible refine gc_ 27 ?_); refine gM_ (some 7) Tryz.func27 #[.agg #[.slice A0_0 l0_0.length c0_0, .int .i64 a0_1]] ?_; (with_reducible refine (spec_inGood.calls k _ _ l0_0 a0_1 false _ ?side1 ?side2 A3.out).mono ?_); (case side1 => exact cU_ (Kd.C_below HR0_0.out HB.out)); (case side2 => exact HC0_0.out); rintro e w27 ⟨rfl, hb⟩; refine ⟨_, rfl, ?_⟩; replace BK383 := M_ (kb_ BK383 hb); replace HB := M_ (bS_ HB hb); clear hb))
  go_ret2
  exact ⟨eR_, bU_ HB⟩

def spec_l1Most.f (a0 : Int) (a1 : Int) : Option (Int) := if a0 > a1 then (some a0) else (some a1)
set_option maxHeartbeats 8000000 in
set_option maxRecDepth 100000 in
theorem spec_l1Most.calls (a0 : Int) (a1 : Int) (r : Int) (w : World) (h : spec_l1Most.f a0 a1 = some r) :
  Calls Tryz.prog 41 #[.int .i64 a0, .int .i64 a1] w fun e w' => e = .returned (.int .i64 r) ∧ Drawn0 w w' := by
 have H : (if a0 > a1 then (some a0) else (some a1)) = some r := h
 clear h
 by_cases c3 : a0 > a1
 ·rw [if_pos c3] at H
  have c3b0 : decide (a1 < a0) = true := decide_eq_true c3
  clear c3;obtain rfl := Option.some.inj H
  go_enter Tryz.func41, Tryz.ntmps41
  go_wp2
  go_ret
  exact ⟨by first | rfl | (simp; done) | (simp [*]; done), by repeat (first | exact Drawn0.refl _ | apply Drawn0.step)⟩
 ·rw [if_neg c3] at H
  have c3b0 : decide (a1 < a0) = false := decide_eq_false c3
  clear c3;obtain rfl := Option.some.inj H
  go_enter Tryz.func41, Tryz.ntmps41
  go_wp2
  go_ret
  exact ⟨by first | rfl | (simp; done) | (simp [*]; done), by repeat (first | exact Drawn0.refl _ | apply Drawn0.step)⟩

end Go.Proofs.YtpkklbjdhmpjnaaGreatDoor.PFnInstruments
