-- by wip/xprint.py, over the kit's printer
import Derived.Test.YtpkklbjdhmpjnaaGreatDoorPFnInstrumentsx0
import Derived.Test.YtpkklbjdhmpjnaaGreatDoorPFnInstrumentsx4
import Derived.Test.YtpkklbjdhmpjnaaGreatDoorPFnInstrumentsx11
namespace Go.Proofs.YtpkklbjdhmpjnaaGreatDoor.PFnInstruments
open Go.RowKit Go.Proofs.YtpkklbjdhmpjnaaGreatDoorW.PrintWords Go.Proofs.YtpkklbjdhmpjnaaGreatDoorW.PrintLast Go.Proofs.YtpkklbjdhmpjnaaGreatDoorW.PrintMore
attribute [local go_sem] max2_int min2_int max_two min_two max_three min_three max_four min_four   -- for this text's walks alone
set_option linter.unusedVariables false
set_option linter.unusedSimpArgs false

mutual
def impl_ParseInstrument.j0 : Nat → ByteArray → Bool → Option (List Int × Int × Bool)
 | 0, _, _ => none
 | k + 1, x0, x17 => if x17 = true then (some (([] : List Int), 0, false)) else (if 0 ≤ (wrap64 ((x0.size : Int) - 1)) then (if (wrap64 ((x0.size : Int) - 1)) ≤ (x0.size : Int) then ((strings_Split.f (x0.extract 0 ((wrap64 ((x0.size : Int) - 1)) : Int).toNat) (⟨#[32]⟩ : ByteArray)).bind fun t502 => (if 0 ≤ (wrap64 ((t502.length : Int) - 1)) then (if (wrap64 ((t502.length : Int) - 1)) < (t502.length : Int) then ((impl_decimal.f k (rdOf ByteArray.empty t502 (wrap64 ((t502.length : Int) - 1)))).bind fun bt506 => (if bt506.2 = true then (if (wrap64 ((t502.length : Int) - 1)) ≤ (t502.length : Int) then ((some (t502.take ((wrap64 ((t502.length : Int) - 1)) : Int).toNat : List ByteArray)).bind fun y509 => (impl_ParseInstrument.l0 k y509 (y509.length : Int) 0 ([] : List Int) bt506.1)) else (none)) else (some (([] : List Int), 0, false)))) else (none)) else (none))) else (none)) else (none))
def impl_ParseInstrument.l0 : Nat → List ByteArray → Int → Int → List Int → Int → Option (List Int × Int × Bool)
 | 0, _, _, _, _, _ => none
 | k + 1, x44, x45, x46, x509000, x509001 => if x46 < x45 then (if 0 ≤ x46 then (if x46 < (x44.length : Int) then ((impl_pitchNamed.f k (rdOf ByteArray.empty x44 x46)).bind fun t514 => (if x509000.length < 17592186044416 then (impl_ParseInstrument.l0 k x44 x45 (wrap64 (x46 + 1)) (x509000 ++ [t514]) x509001) else (none))) else (none)) else (none)) else ((impl_IsInstrument.f k x509000 x509001).bind fun t518 => (if t518 = true then (some (x509000, x509001, true)) else (some (([] : List Int), 0, false))))
end
def impl_ParseInstrument.f (k : Nat) (a0 : ByteArray) : Option (List Int × Int × Bool) := if (a0.size : Int) > 200 then (impl_ParseInstrument.j0 k a0 true) else ((strings_HasSuffix.f a0 (⟨#[10]⟩ : ByteArray)).bind fun t501 => (impl_ParseInstrument.j0 k a0 (!t501)))
theorem impl_ParseInstrument.mono_l : ∀ k, (∀ y0 y1, LeO (impl_ParseInstrument.j0 k y0 y1) (impl_ParseInstrument.j0 (k + 1) y0 y1)) ∧ (∀ y0 y1 y2 y3 y4, LeO (impl_ParseInstrument.l0 k y0 y1 y2 y3 y4) (impl_ParseInstrument.l0 (k + 1) y0 y1 y2 y3 y4))
 | 0 => ⟨fun _ _ r h => by simp [impl_ParseInstrument.j0] at h, fun _ _ _ _ _ r h => by simp [impl_ParseInstrument.l0] at h⟩
 | k + 1 => by
  obtain ⟨ih0, ih1⟩ := impl_ParseInstrument.mono_l k;refine ⟨?_, ?_⟩
  ·intro y0 y1
   unfold impl_ParseInstrument.j0
   have m0_ := @impl_IsInstrument.mono;have m1_ := @impl_decimal.mono;have m2_ := @impl_pitchNamed.mono;exact mo_
  ·intro y0 y1 y2 y3 y4
   unfold impl_ParseInstrument.l0
   have m0_ := @impl_IsInstrument.mono;have m1_ := @impl_decimal.mono;have m2_ := @impl_pitchNamed.mono;exact mo_
theorem impl_ParseInstrument.mono : ∀ a0 k, LeO (impl_ParseInstrument.f k a0) (impl_ParseInstrument.f (k + 1) a0) := by
 intro a0 k;obtain ⟨ih0, ih1⟩ := impl_ParseInstrument.mono_l k
 unfold impl_ParseInstrument.f
 have m0_ := @impl_IsInstrument.mono;have m1_ := @impl_decimal.mono;have m2_ := @impl_pitchNamed.mono;exact mo_
def impl_ParseInstrument.T11 : Bool × List (List Nat × List Nat) := (true, [([], []), ([0], [0]), ([], []), ([2], [2]), ([3], [3]), ([1, 4, 3], [1, 4]), ([0, 1, 2, 3, 4, 5], []), ([6, 5, 5, 0, 1, 2, 3, 4, 5], [5, 6])])
def impl_ParseInstrument.B11 : List Nat := [0, 1, 0, 4, 12, 31, 63, 127]
theorem impl_ParseInstrument.tab11 : rtab .any (opsOf Tryz.f19 11) = impl_ParseInstrument.T11 := by kernel_rfl
theorem impl_ParseInstrument.bits11 : waitsOk impl_ParseInstrument.T11.2 impl_ParseInstrument.B11 = true := by kernel_rfl
set_option maxHeartbeats 8000000 in
set_option maxRecDepth 100000 in
theorem impl_ParseInstrument.calls (k : Nat) (a0 : ByteArray) (r1 : List Int) (r2 : Int) (r3 : Bool) (w : World) (hM : ∃ m, w.cell? ⟨0, 0, none⟩ = some (.int .i64 m)) (h : impl_ParseInstrument.f k a0 = some (r1, r2, r3)) :
  Calls Tryz.prog 19 #[.string a0] w fun e w' => ∃ v0_ : Value, e = .returned (.tuple #[.agg #[v0_, .int .i64 r2], .bool r3]) ∧ Kd.R (Kd.int .i64) 3 w' w.heap.size (fun _ => True) v0_ r1 ∧ Below w.heap.size w w' := by
 have hu25 := Tryz.underlying25;have HM := M_ hM;clear hM;have HB := M_ (Below.refl w.heap.size w)
 have H : (if (a0.size : Int) > 200 then (impl_ParseInstrument.j0 k a0 true) else ((strings_HasSuffix.f a0 (⟨#[10]⟩ : ByteArray)).bind fun t501 => (impl_ParseInstrument.j0 k a0 (!t501)))) = some (r1, r2, r3) := h
 clear h;have HC2 := M_ H;clear H
 go_enter Tryz.func19, Tryz.ntmps19
 go_upto_region 1 with (first | ((with_reducible refine gate_dst (N := 2) rfl ?_); refine bx_ (N := 2) (cs := #[.slice none 0 0, .int .i64 0]) (t := 25) ?_; intro gb500 hg w3 hbox hb; have BK500 := M_ (hbox); have GW500 := M_ (gw_ HB hg); have GE500 := M_ (gw_ HB hg); replace HB := M_ (bS_ HB hb); clear hb hbox hg))
 (try simp only [Act.put, la_, lb_, lc_])
 go_cut [17] (fun v17 wc => ∃ (kq : Nat) (x17_1 : Bool), v17 = .bool x17_1 ∧ Aside0 (impl_ParseInstrument.j0 kq a0 x17_1 = some (r1, r2, r3)) ∧ Aside0 (kq ≤ k) ∧ Aside0 (wc.heap[gb500]? = some (.cells #[(.slice none 0 0), .int .i64 0] 25 (0, 0))) ∧ Aside0 (Below w.heap.size w wc))
 case first =>
  have H := HC2.out;clear HC2
  by_cases c4 : (a0.size : Int) > 200
  ·rw [if_pos c4] at H
   have c4b0 : decide (200 < (a0.size : Int)) = true := decide_eq_true c4
   have c4b1 : decide (200 < a0.size) = true := decide_eq_true (by omega)
   clear c4
   (first | rw [c4b0] | (simp only [i64_w, i32_w]; rw [c4b0]) | skip)
   have H' := M_ H
   clear H
   go_wp2
   go_meet
   case rel => exact ⟨_, (true), eD_, H', ⟨by first | omega | exact Nat.le_refl _⟩, ⟨kU_ BK500⟩, ⟨bU_ HB⟩⟩
  ·rw [if_neg c4] at H
   have c4b0 : decide (200 < (a0.size : Int)) = false := decide_eq_false c4
   have c4b1 : decide (200 < a0.size) = false := decide_eq_false (by omega)
   clear c4
   (first | rw [c4b0] | (simp only [i64_w, i32_w]; rw [c4b0]) | skip)
   replace H := Option.bind_eq_some_iff.mp H;obtain ⟨t501, A50, H⟩ := H;(try dsimp only at H);have A5 := M_ A50;clear A50
   have H' := M_ H
   clear H
   go_wp2_with (first | (go_at_call 46; (with_reducible refine (strings_HasSuffix.calls a0 (⟨#[10]⟩ : ByteArray) t501 _ A5.out).mono ?_); rintro e w' ⟨rfl, ⟨nd, rfl⟩⟩))
   go_meet
   case rel => exact ⟨_, (!t501), eD_, H', ⟨by first | omega | exact Nat.le_refl _⟩, ⟨kU_ BK500⟩, ⟨bU_ HB⟩⟩
 case rest =>
  clear HC2;obtain ⟨kq, x17_1, rfl, HA, HJ1, BK500, HB⟩ := hcut
  cases kq with
  | zero => exact absurd HA.out (by simp [impl_ParseInstrument.j0])
  | succ kj1 =>
   have H := HA.out;clear HA;simp only [impl_ParseInstrument.j0] at H
   by_cases c6 : x17_1 = true
   ·subst c6
    rw [if_pos rfl] at H
    simp only [Option.some.injEq, Prod.mk.injEq] at H;obtain ⟨rfl, rfl, rfl⟩ := H;obtain ⟨hcz7_0, hcz7_1, hfz7_0, hfz7_1⟩ := bq2_ BK500
    go_wp2
    refine bodyPost_ret (results_ct rfl _ _ gb500 25 #[.slice none 0 0, .int .i64 0] (0, 0) _ rfl (by (with_reducible repeat (first | refine kn_ ?_ _ | refine kd_ ?_ | refine ka_ ?_ _)); refine blk_put (cs := #[.slice none 0 0, .int .i64 0]) ?_ 1 _ rfl; (with_reducible repeat (first | refine kn_ ?_ _ | refine kd_ ?_ | refine ka_ ?_ _)); refine blk_put (cs := #[.slice none 0 0, .int .i64 0]) ?_ 0 _ rfl; (with_reducible repeat (first | refine kn_ ?_ _ | refine kd_ ?_ | refine ka_ ?_ _)); exact BK500.out) Tryz.underlying25 rfl (by kernel_rfl)) rfl ?_;exact ⟨_, eR_, by first | exact Kd.R_nil _ _ _ _ _ | exact Kd.N_nil _ _ _ _ _ | exact Kd.V_nil _ _ _ _ _ | exact Kd.Q_nil _ _ _ _ _ | exact Kd.S_nil _ _ _ _ _, bU_ HB⟩
   ·replace c6 := Bool.eq_false_iff.mpr c6
    subst c6
    rw [if_neg (show ¬ (false = true) by decide)] at H
    obtain ⟨ji8, hji8⟩ : ∃ j_ : Int, (wrap64 ((a0.size : Int) - 1)) = j_ := ⟨_, rfl⟩
    replace H : (if 0 ≤ (ji8) then (if (ji8) ≤ (a0.size : Int) then ((strings_Split.f (a0.extract 0 ((ji8) : Int).toNat) (⟨#[32]⟩ : ByteArray)).bind fun t502 => (if 0 ≤ (wrap64 ((t502.length : Int) - 1)) then (if (wrap64 ((t502.length : Int) - 1)) < (t502.length : Int) then ((impl_decimal.f kj1 (rdOf ByteArray.empty t502 (wrap64 ((t502.length : Int) - 1)))).bind fun bt506 => (if bt506.2 = true then (if (wrap64 ((t502.length : Int) - 1)) ≤ (t502.length : Int) then ((some (t502.take ((wrap64 ((t502.length : Int) - 1)) : Int).toNat : List ByteArray)).bind fun y509 => (impl_ParseInstrument.l0 kj1 y509 (y509.length : Int) 0 ([] : List Int) bt506.1)) else (none)) else (some (([] : List Int), 0, false)))) else (none)) else (none))) else (none)) else (none)) = some (r1, r2, r3) := by first | (rw [hji8] at H; exact H) | (simp only [hji8] at H ⊢; exact H)
    have hji8w : (IntKind.i64.wrap ((a0.size : Int) - 1)) = ji8 := (i64_w _).trans hji8
    by_cases c9 : 0 ≤ (ji8)
    ·rw [if_pos c9] at H
     have c9b0 := eq_true c9
     have c9b1 : decide (0 ≤ (ji8)) = true := decide_eq_true c9
     clear c9
     by_cases c10 : (ji8) ≤ (a0.size : Int)
     ·rw [if_pos c10] at H
      have c10b0 := eq_true c10
      have c10b1 : decide ((ji8) ≤ (a0.size : Int)) = true := decide_eq_true c10
      clear c10;replace H := Option.bind_eq_some_iff.mp H;obtain ⟨t502, A110, H⟩ := H;(try dsimp only at H);have A11 := M_ A110;clear A110;obtain ⟨ji12, hji12⟩ : ∃ j_ : Int, (wrap64 ((t502.length : Int) - 1)) = j_ := ⟨_, rfl⟩
      replace H : (if 0 ≤ (ji12) then (if (ji12) < (t502.length : Int) then ((impl_decimal.f kj1 (rdOf ByteArray.empty t502 (ji12))).bind fun bt506 => (if bt506.2 = true then (if (ji12) ≤ (t502.length : Int) then ((some (t502.take ((ji12) : Int).toNat : List ByteArray)).bind fun y509 => (impl_ParseInstrument.l0 kj1 y509 (y509.length : Int) 0 ([] : List Int) bt506.1)) else (none)) else (some (([] : List Int), 0, false)))) else (none)) else (none)) = some (r1, r2, r3) := by first | (rw [hji12] at H; exact H) | (simp only [hji12] at H ⊢; exact H)
      (try rw [hji12] at A11)
      have hji12w : (IntKind.i64.wrap ((t502.length : Int) - 1)) = ji12 := (i64_w _).trans hji12
      by_cases c13 : 0 ≤ (ji12)
      ·rw [if_pos c13] at H
       have c13b0 : decide (0 ≤ (ji12)) = true := decide_eq_true c13
       clear c13
       by_cases c14 : (ji12) < (t502.length : Int)
       ·rw [if_pos c14] at H
        have c14b0 : decide ((ji12) < (t502.length : Int)) = true := decide_eq_true c14
        clear c14;replace H := Option.bind_eq_some_iff.mp H;obtain ⟨⟨t506, t507⟩, A150, H⟩ := H;(try dsimp only at H);have A15 := M_ A150;clear A150
        by_cases c16 : t507 = true
        ·subst c16
         rw [if_pos rfl] at H
         have c17b0 := eq_true (dT_ : 0 ≤ (ji12))
         by_cases c18 : (ji12) ≤ (t502.length : Int)
         ·rw [if_pos c18] at H
          have c18b0 := eq_true c18
          have c18b1 : decide ((ji12) ≤ (t502.length : Int)) = true := decide_eq_true c18
          clear c18;obtain ⟨y509, hy509, H⟩ := ob_ H;(try dsimp only at H);have Ny509 := M_ hy509;clear hy509
          have H' := M_ H
          clear H
          go_wp2_with (first | ((with_reducible refine gc_ 47 ?_); refine goesL_ (some 24) rfl rfl Tryz.func47 (by kernel_rfl) rfl #[.string (a0.extract 0 ((ji8) : Int).toNat), .string (⟨#[32]⟩ : ByteArray)] rfl (by (try simp only [List.map_toArray, List.map_cons, List.map_nil]); first | done | (simp only [hji8]; rfl) | rfl | (simp only [List.length_drop, List.length_take]; rfl)) ?_; (with_reducible refine (strings_Split.calls (a0.extract 0 ((ji8) : Int).toNat) (⟨#[32]⟩ : ByteArray) t502 _ (someInt_ HM.out (bU_ HB)) A11.out).mono ?_); rintro e w19 ⟨v503, rfl, ho0, hb⟩; refine ⟨_, rfl, ?_⟩; have HO504 := M_ (Kd.R_lower ho0 (bZ_ HB)); replace BK500 := M_ (kb_ BK500 hb); replace HB := M_ (bS_ HB hb); clear hb ho0; obtain ⟨Ao20, co20, eo20⟩ := Kd.R_slice HO504.out; subst eo20; have p505 : 0 ≤ ((ji12) : Int) := dT_; have q505 : (ji12) < (t502.length : Int) := dT_; obtain ⟨ad505, e505, hx505_0⟩ := Kd.at_string (Kd.R_reads' HO504.out).2.2 (ji12) p505 q505; cases e505; replace p505 := eq_true p505; replace q505 := eq_true q505) | ((with_reducible refine gc_ 48 ?_); refine goesL_ (some 32) rfl rfl Tryz.func48 (by kernel_rfl) rfl #[.string (rdOf ByteArray.empty t502 (ji12))] rfl (by (try simp only [List.map_toArray, List.map_cons, List.map_nil]); first | done | (simp only [hji12]; rfl) | rfl | (simp only [List.length_drop, List.length_take]; rfl)) ?_; (with_reducible refine (impl_decimal.calls kj1 (rdOf ByteArray.empty t502 (ji12)) t506 true _ A15.out).mono ?_); rintro e w' ⟨rfl, ⟨nd, rfl⟩⟩; refine ⟨_, rfl, ?_⟩; (try (rw [drewN_self w19]; generalize hq_ : World.drewN w19 _ = w19; have n0_ : Aside0 (Kd.R Kd.string 9 w19 w.heap.size (fun _ => True) (.slice (some ad505) t502.length co20) t502) := ⟨by rw [← hq_]; exact (rU_ HO504.out)⟩; have n1_ : Aside0 (w19.heap[gb500]? = some (.cells #[.slice none 0 0, .int .i64 0] 25 (0, 0))) := ⟨by rw [← hq_]; exact (kU_ BK500)⟩; have n2_ : Aside0 (Below w.heap.size w w19) := ⟨by rw [← hq_]; exact (bU_ HB)⟩; clear HO504 BK500 HB hq_; have HO504 := n0_; have BK500 := n1_; have HB := n2_; clear n0_ n1_ n2_))) | ((with_reducible refine gate_dst (N := 7) rfl ?_); refine bx_ (N := 7) (cs := #[.slice none 0 0, .int .i64 0]) (t := 25) ?_; intro gb508 hg w21 hbox hb; obtain ⟨wX, hwX1, hwX2, hwX3, hwX4⟩ : ∃ wX : World, Below wX.heap.size wX w21 ∧ wX.heap.size ≤ gb508 ∧ Below w.heap.size w wX ∧ Kd.C Kd.string wX (some ad505) t502.length t502 := ⟨_, hb, Nat.le_of_eq hg.symm, (bU_ HB), (Kd.R_reads' HO504.out).2.2⟩; have HBX := M_ hwX1; have GEX := M_ hwX2; have HBW := M_ hwX3; have HCX := M_ hwX4; clear hwX1 hwX2 hwX3 hwX4; replace HO504 := M_ (rB_ HO504 hb); have BK508 := M_ (hbox); have GW508 := M_ (gw_ HB hg); have GE508 := M_ (gw_ HB hg); replace HB := M_ (bS_ HB hb); have NB500_508 := M_ (nb_ BK500 hg); have NB508_500 := M_ ((by rw [hg]; exact Nat.ne_of_gt (blk_lt (kU_ BK500)) : gb508 ≠ gb500)); replace BK500 := M_ (kb_ BK500 hb); clear hb hbox hg; have hnb22 := NB508_500.out; have hnc22 := NB500_508.out; obtain ⟨hcz23_0, hcz23_1, hfz23_0, hfz23_1⟩ := bq2_ BK508) | ((with_reducible refine gate_store (t := 25) (p := 7) rfl ?_); refine store_event (t := 25) (p := 7) (v := ?vo_w24) (w1 := ((w21.setCell ⟨gb508, 0, none⟩ (.slice none 0 0)).setCell ⟨gb508, 1, none⟩ (.int .i64 t506))) ?hg ?ho ?hn ?hr ?_; (case ho => rfl); (case hg => rfl); (case hn => rfl); (case hr => first | (go_simp; done) | (go_simp; rfl)); intro w24 hw; have nX_ : Aside0 (Below wX.heap.size wX w24) := ⟨(by rw [hw]; exact bs_ (bs_ (HBX.out) GEX.out) GEX.out)⟩; have n0_ : Aside0 (Kd.R Kd.string 9 w24 w.heap.size (fun _ => True) (.slice (some ad505) t502.length co20) t502) := ⟨(by rw [hw]; exact (rU_ (rm_ (Kd.R_far (p := ⟨gb508, 1, none⟩) (Kd.R_far (p := ⟨gb508, 0, none⟩) (rt_ HO504.out BK508.out (by decide)) (fun _ hk => hk.2) (.slice none 0 0)) (fun _ hk => hk.2) (.int .i64 t506)) (fun _ hk => trivial))))⟩; have n1_ : Aside0 (w24.heap[gb500]? = some (.cells #[.slice none 0 0, .int .i64 0] 25 (0, 0))) := ⟨(by rw [hw]; exact (by (with_reducible repeat (first | refine kn_ ?_ _ | refine kd_ ?_ | refine ka_ ?_ _)); refine blk_far ?_ NB500_508.out _; (with_reducible repeat (first | refine kn_ ?_ _ | refine kd_ ?_ | refine ka_ ?_ _)); refine blk_far ?_ NB500_508.out _; (with_reducible repeat (first | refine kn_ ?_ _ | refine kd_ ?_ | refine ka_ ?_ _)); exact BK500.out))⟩; have n2_ : Aside0 (w24.heap[gb508]? = some (.cells #[.slice none 0 0, .int .i64 t506] 25 (0, 0))) := ⟨(by rw [hw]; exact (by (with_reducible repeat (first | refine kn_ ?_ _ | refine kd_ ?_ | refine ka_ ?_ _)); refine blk_put (cs := #[.slice none 0 0, .int .i64 0]) ?_ 1 _ rfl; (with_reducible repeat (first | refine kn_ ?_ _ | refine kd_ ?_ | refine ka_ ?_ _)); refine blk_put (cs := #[.slice none 0 0, .int .i64 0]) ?_ 0 _ rfl; (with_reducible repeat (first | refine kn_ ?_ _ | refine kd_ ?_ | refine ka_ ?_ _)); exact BK508.out))⟩; have n3_ : Aside0 (Below w.heap.size w w24) := ⟨(by rw [hw]; exact (bU_ HB))⟩; clear hw; clear HBX; have HBX := nX_; clear nX_; clear HO504; clear BK500; clear BK508; clear HB; have HO504 := n0_; have BK500 := n1_; have BK508 := n2_; have HB := n3_; clear n0_ n1_ n2_ n3_; have q25 : ((ji12) : Int) ≤ ((t502.length : Int) : Int) := dT_; obtain ⟨i025, hi025, _, hsz25, _⟩ := info_parts info9; have hroom25 : t502.length ≤ co20 := (Kd.R_reads' HO504.out).2.1; have hC25 : Kd.C Kd.string _ (some ad505) t502.length t502 := (Kd.R_reads' HO504.out).2.2; have hcut25 := cut_to (P := Tryz.prog) 62 9 .i64 Tryz.underlying62 hi025 (some ad505) t502.length co20 (ji12) (dT_) q25 hroom25; have hr25 := Kd.C_take (m := ((ji12) : Int).toNat) hC25 (by omega); have hy25 : y509.length = ((ji12) : Int).toNat := (by rw [Ny509.out, List.length_take]; omega); rw [← Ny509.out] at hr25; have hrX := Kd.C_take (m := ((ji12) : Int).toNat) HCX.out (by omega); rw [← Ny509.out] at hrX; have HRX := M_ hrX; clear hrX; rw [← hy25] at hcut25; have HR512 := M_ hr25; have HC512 := M_ (show y509.length ≤ co20 from by omega); clear hr25 hC25 hroom25 hi025 hsz25; have KY25 := M_ hy25; clear hy25; have KL25 := M_ (show ((ji12) : Int).toNat ≤ t502.length from by omega); replace q25 := eq_true q25))
          clear HB;have HB := HBX
          go_loopg [46] kj1 (fun kq v46 w' => ∃ (x46_2 : Int) (x509000_2 : List Int) (u509000 : Value), v46 = .int .i64 x46_2 ∧ Aside0 (impl_ParseInstrument.l0 kq y509 (y509.length : Int) x46_2 x509000_2 t506 = some (r1, r2, r3)) ∧ Aside0 (kq ≤ kj1) ∧ Aside0 (Kd.R (Kd.int .i64) 3 w' wX.heap.size (fun _ => True) u509000 x509000_2) ∧ Aside0 (w'.heap[gb500]? = some (.cells #[(.slice none 0 0), .int .i64 0] 25 (0, 0))) ∧ Aside0 (w'.heap[gb508]? = some (.cells #[u509000, .int .i64 t506] 25 (0, 0))) ∧ Aside0 (Below wX.heap.size wX w'))
          case atStart => exact ⟨(0), (([] : List Int)), (.slice none 0 0), eD_, H', ⟨Nat.le_refl _⟩, ⟨by first | exact Kd.R_nil _ _ _ _ _ | exact Kd.N_nil _ _ _ _ _ | exact Kd.V_nil _ _ _ _ _ | exact Kd.Q_nil _ _ _ _ _ | exact Kd.S_nil _ _ _ _ _⟩, ⟨kU_ BK500⟩, ⟨kU_ BK508⟩, ⟨bU_ HB⟩⟩
          case round =>
           clear H';obtain ⟨x46_2, x509000_2, u509000, rfl, HA, HK2, HO_509000, BK500, BK508, HB⟩ := hrel
           cases gk with
           | zero => exact absurd HA.out (by simp [impl_ParseInstrument.l0])
           | succ k2 =>
            have H := HA.out;clear HA;simp only [impl_ParseInstrument.l0] at H
            by_cases c26 : x46_2 < (y509.length : Int)
            ·rw [if_pos c26] at H
             have c26b0 : decide (x46_2 < (y509.length : Int)) = true := decide_eq_true c26
             clear c26
             by_cases c27 : 0 ≤ x46_2
             ·rw [if_pos c27] at H
              have c27b0 : decide (0 ≤ x46_2) = true := decide_eq_true c27
              clear c27
              by_cases c28 : x46_2 < (y509.length : Int)
              ·rw [if_pos c28] at H
               have c28b0 : decide (x46_2 < (y509.length : Int)) = true := decide_eq_true c28
               clear c28;replace H := Option.bind_eq_some_iff.mp H;obtain ⟨t514, A290, H⟩ := H;(try dsimp only at H);have A29 := M_ A290;clear A290
               by_cases c30 : x509000_2.length < 17592186044416
               ·rw [if_pos c30] at H
                have LMc30 := M_ c30;clear c30;obtain ⟨y515, hy515⟩ : ∃ y_ : List Int, y_ = (x509000_2 ++ [t514]) := ⟨_, rfl⟩
                replace H : (impl_ParseInstrument.l0 k2 y509 (y509.length : Int) (wrap64 (x46_2 + 1)) y515 t506) = some (r1, r2, r3) := by first | (rw [hy515]; with_reducible exact H) | (have H2_ := (Option.bind_some _ _).symm.trans H; rw [hy515]; with_reducible exact H2_) | (have H2_ := (Option.bind_some _ _).symm.trans H; with_reducible exact H2_) | with_reducible exact H | (rw [hy515]; exact H) | exact H
                have Ny515 := M_ hy515;clear hy515
                have H' := M_ H
                clear H
                have p513 : 0 ≤ (x46_2 : Int) := dT_
                have q513 : x46_2 < (y509.length : Int) := dT_
                obtain ⟨ad513, e513, hx513_0⟩ := Kd.at_string HRX.out x46_2 p513 q513;obtain rfl : ad505 = ad513 := (by injection e513);replace hx513_0 := (HB.out.cell (World.block_lt_of_cell? wX _ hx513_0)).trans hx513_0;replace p513 := eq_true p513;replace q513 := eq_true q513
                try go_wp2
                replace HO_509000 := M_ (rd_ HO_509000.out); replace BK500 := M_ (kd_ BK500.out); replace BK508 := M_ (kd_ BK508.out); replace HB := M_ (b1_ HB.out);refine start_ (n := 8) (S := fun w' => w'.cell? ⟨gb508, 0, none⟩ = some (u509000) ∧ w'.cell? ⟨gb508, 1, none⟩ = some (.int .i64 t506)) (ds := [7]) #[F,F,F,F,F,F,F,F] (by kernel_rfl) rfl rfl ⟨bc0_ BK508, bc1_ BK508⟩ (fun hHeld => ?_); refine with_tabW impl_ParseInstrument.tab11 impl_ParseInstrument.bits11 (fun HT_ HW_ => ?_);generalize wr.drew = w31 at HO_509000 BK500 BK508 HB hHeld ⊢;refine pR_ (i := 0) (N := some 50) #[T,F,F,F,F,F,F,F] ?_;refine pR_ (i := 2) (N := some 52) #[T,F,T,F,F,F,F,F] ?_;refine take_ (i := 1) (N := some 51) (v := ?_) (a' := ?_) #[T,T,T,F,F,F,F,F] rfl rfl (take_ofW HT_.out HW_.out (by kernel_rfl)) (fun _ _ _ h => h) (Or.inl ⟨by rfl, ?_⟩) hHeld ?_ ?_;rotate_left
                ·rintro w' ⟨s0, s1⟩
                 go_simp;with_reducible rfl
                rotate_left
                ·simp only [Act.put, la_, lb_, lc_, i64_w, i32_w]
                 rfl
                refine one_ (i := 3) (N := some 53) #[T,T,T,T,F,F,F,F] rfl rfl (one_of HT_.out (by kernel_rfl)) (by decide) (fun K hK => ?_);refine gS_ Tryz.func49 #[.string (rdOf ByteArray.empty y509 x46_2)] ?_
                with_reducible refine (impl_pitchNamed.calls k2 (rdOf ByteArray.empty y509 x46_2) t514 _ A29.out).mono ?_
                rintro e w32 ⟨rfl, hb⟩;refine ⟨_, rfl, ?_⟩;replace HO_509000 := M_ (rB_ HO_509000 hb); replace BK500 := M_ (kb_ BK500 hb); replace BK508 := M_ (kb_ BK508 hb); replace HB := M_ (bS_ HB hb);clear hb;refine hK.out _ _ ⟨bc0_ BK508, bc1_ BK508⟩ (fun hHeld => ?_);clear hK K;refine nM_ (some 53) ?_;refine one_ (i := 4) (N := some 54) #[T,T,T,T,T,F,F,F] rfl rfl (one_of HT_.out (by kernel_rfl)) (by decide) (fun K hK => ?_);refine value_ (w1 := ?_) (v := ?_) (by rfl) rfl ?_ ?_
                rotate_left 2
                ·go_simp
                 constructor
                 ·rfl
                 ·rfl
                refine hK.out _ _ ⟨(blk_cell (ka_ BK508.out _) 0).trans rfl, (blk_cell (ka_ BK508.out _) 1).trans rfl⟩ (fun hHeld => ?_);clear hK K;refine nM_ (some 54) ?_;refine one_ (i := 5) (N := some 55) #[T,T,T,T,T,T,F,F] rfl rfl (one_of HT_.out (by kernel_rfl)) (by decide) (fun K hK => ?_);refine Kd.R_append_step (Kd.int .i64) (w0 := wX) wX.heap.size (by rfl) (.tmp 51) (.tmp 54) 23 3 (.int .i64 0) 8 rfl Tryz.underlying23 info3 rfl (by decide) (by omega) u509000 x509000_2 t514 [.int .i64 t514] (fun _ => True) (fun _ => False) rfl rfl ?aP (fun _ hk => hk.elim) ?aF ?aO ?aB ?aS ?aL ?_
                (case aP => exact rfl)
                (case aB => exact (bU_ HB))
                (case aF => exact (fun _ _ => trivial))
                (case aO => exact (rU_ HO_509000.out))
                (case aS => exact (bZ_ HB))
                (case aL => have := LMc30.out; omega)
                intro v516 w33 ho hb hg hat
                rw [← Ny515.out] at ho
                replace BK500 := M_ (kg_ BK500 hg (Kd.R_ne HO_509000.out BK500.out (by decide))); replace BK508 := M_ (kg_ BK508 hg (Kd.R_ne HO_509000.out BK508.out (by decide))); replace HB := M_ (hb); have HO517 := M_ (ho); clear HO_509000;clear ho hb hg hat;obtain ⟨Ao34, co34, eo34⟩ := Kd.R_slice HO517.out
                (first | subst eo34 | (injection eo34 with f1_ f2_ f3_; have f4_ := f1_.symm; have f5_ := f3_.symm; clear f1_ f2_ f3_; subst f4_; subst f5_))
                refine hK.out _ _ ⟨bc0_ BK508, bc1_ BK508⟩ (fun hHeld => ?_);clear hK K;refine nM_ (some 55) ?_;refine pR_ (i := 6) (N := some 56) #[T,T,T,T,T,T,T,F] ?_;refine last_ (i := 7) (N := none) #[T,T,T,T,T,T,T,T] rfl rfl (one_of HT_.out (by kernel_rfl)) (by decide) (fun K hK => ?_)
                have hs35 : w33.cell? ⟨gb508, 0, none⟩ = some (u509000) := bc0_ BK508
                have hfs35 := bf_ BK508 0;have hns35_0 := NB500_508.out;have hms35_0 := NB508_500.out;refine skip_ (w1 := ?_) (by rfl) rfl ?_ ?_;rotate_left
                ·go_simp
                 rfl
                refine hK.out _ _ ?_;clear hK K;refine done_ (done_of HT_.out (by kernel_rfl)) ?_
                try go_wp2
                go_roundg k2
                case measure => have := HJ1.out; have := HK2.out; omega
                case rel => exact ⟨(wrap64 (x46_2 + 1)), (y515), (.slice Ao34 y515.length co34), eD_, H', ⟨by have := HJ1.out; have := HK2.out; omega⟩, ⟨by (with_reducible repeat (first | apply ra_ | apply rn_ | apply rd_)); exact rm_ (Kd.R_far (p := ⟨gb508, 0, none⟩) (rt_ HO517.out BK508.out (by decide)) (fun _ hk => hk.2) (.slice Ao34 y515.length co34)) (fun _ hk => trivial)⟩, ⟨by (with_reducible repeat (first | refine kn_ ?_ _ | refine kd_ ?_ | refine ka_ ?_ _)); refine blk_far ?_ NB500_508.out _; (with_reducible repeat (first | refine kn_ ?_ _ | refine kd_ ?_ | refine ka_ ?_ _)); exact BK500.out⟩, ⟨by (with_reducible repeat (first | refine kn_ ?_ _ | refine kd_ ?_ | refine ka_ ?_ _)); refine blk_put (cs := #[u509000, .int .i64 t506]) ?_ 0 _ rfl; (with_reducible repeat (first | refine kn_ ?_ _ | refine kd_ ?_ | refine ka_ ?_ _)); exact BK508.out⟩, ⟨bU_ HB⟩⟩
               ·rw [if_neg c30] at H
                exact absurd H (by simp)
              ·rw [if_neg c28] at H
               exact absurd H (by simp)
             ·rw [if_neg c27] at H
              exact absurd H (by simp)
            ·rw [if_neg c26] at H
             have c26b0 : decide (x46_2 < (y509.length : Int)) = false := decide_eq_false c26
             clear c26;replace H := Option.bind_eq_some_iff.mp H;obtain ⟨t518, A360, H⟩ := H;(try dsimp only at H);have A36 := M_ A360;clear A360
             by_cases c37 : t518 = true
             ·subst c37
              rw [if_pos rfl] at H
              simp only [Option.some.injEq, Prod.mk.injEq] at H;obtain ⟨rfl, rfl, rfl⟩ := H;have hnb38 := NB508_500.out;have hnc38 := NB500_508.out;obtain ⟨hcz39_0, hcz39_1, hfz39_0, hfz39_1⟩ := bq2_ BK508;obtain ⟨Ao40, co40, eo40⟩ := Kd.R_slice HO_509000.out;subst eo40
              go_wp2_with (first | ((with_reducible refine gc_ 23 ?_); refine gM_ (some 59) Tryz.func23 #[.agg #[.slice Ao40 x509000_2.length co40, .int .i64 t506]] ?_; (with_reducible refine (impl_IsInstrument.calls k2 _ _ x509000_2 t506 true _ ?side1 ?side2 A36.out).mono ?_); (case side1 => exact cU_ (Kd.R_reads' HO_509000.out).2.2); (case side2 => exact (Kd.R_reads' HO_509000.out).2.1); rintro e w41 ⟨rfl, hb⟩; refine ⟨_, rfl, ?_⟩; replace HO_509000 := M_ (rB_ HO_509000 hb); replace BK500 := M_ (kb_ BK500 hb); replace BK508 := M_ (kb_ BK508 hb); replace HB := M_ (bS_ HB hb); clear hb; obtain ⟨hcz42_0, hcz42_1, hfz42_0, hfz42_1⟩ := bq2_ BK508; obtain ⟨hcz43_0, hcz43_1, hfz43_0, hfz43_1⟩ := bq2_ BK500))
              refine bodyPost_ret (results_ct rfl _ _ gb500 25 #[.slice Ao40 x509000_2.length co40, .int .i64 t506] (0, 0) _ rfl (by (with_reducible repeat (first | refine kn_ ?_ _ | refine kd_ ?_ | refine ka_ ?_ _)); refine blk_put (cs := #[.slice Ao40 x509000_2.length co40, .int .i64 0]) ?_ 1 _ rfl; (with_reducible repeat (first | refine kn_ ?_ _ | refine kd_ ?_ | refine ka_ ?_ _)); refine blk_put (cs := #[.slice none 0 0, .int .i64 0]) ?_ 0 _ rfl; (with_reducible repeat (first | refine kn_ ?_ _ | refine kd_ ?_ | refine ka_ ?_ _)); exact BK500.out) Tryz.underlying25 rfl (by kernel_rfl)) rfl ?_;exact ⟨_, by first | rfl | (simp [errW_none, errW_some] <;> rfl) | (simp only [← hji8, ← hji12]; first | rfl | (simp [errW_none, errW_some] <;> rfl)) | (simp [*, errW_none, errW_some] <;> rfl), Kd.R_lower (rU_ (rm_ (Kd.R_far (p := ⟨gb500, 1, none⟩) (Kd.R_far (p := ⟨gb500, 0, none⟩) (rt_ HO_509000.out BK500.out (by decide)) (fun _ hk => hk.2) (.slice Ao40 x509000_2.length co40)) (fun _ hk => hk.2) (.int .i64 t506)) (fun _ hk => trivial))) (below_size HBW.out), by repeat (first | (with_reducible first | exact (below_step HBW.out HB.out) | apply ba_ | apply bn_ | apply b1_ | refine bs_ ?_ GE500.out | refine bs_ ?_ GE508.out) | exact (below_step HBW.out HB.out))⟩
             ·replace c37 := Bool.eq_false_iff.mpr c37
              subst c37
              rw [if_neg (show ¬ (false = true) by decide)] at H
              simp only [Option.some.injEq, Prod.mk.injEq] at H;obtain ⟨rfl, rfl, rfl⟩ := H;have hnb44 := NB508_500.out;have hnc44 := NB500_508.out;obtain ⟨hcz45_0, hcz45_1, hfz45_0, hfz45_1⟩ := bq2_ BK508;obtain ⟨Ao46, co46, eo46⟩ := Kd.R_slice HO_509000.out;subst eo46
              go_wp2_with (first | ((with_reducible refine gc_ 23 ?_); refine gM_ (some 59) Tryz.func23 #[.agg #[.slice Ao46 x509000_2.length co46, .int .i64 t506]] ?_; (with_reducible refine (impl_IsInstrument.calls k2 _ _ x509000_2 t506 false _ ?side1 ?side2 A36.out).mono ?_); (case side1 => exact cU_ (Kd.R_reads' HO_509000.out).2.2); (case side2 => exact (Kd.R_reads' HO_509000.out).2.1); rintro e w47 ⟨rfl, hb⟩; refine ⟨_, rfl, ?_⟩; replace HO_509000 := M_ (rB_ HO_509000 hb); replace BK500 := M_ (kb_ BK500 hb); replace BK508 := M_ (kb_ BK508 hb); replace HB := M_ (bS_ HB hb); clear hb; obtain ⟨hcz48_0, hcz48_1, hfz48_0, hfz48_1⟩ := bq2_ BK500))
              refine bodyPost_ret (results_ct rfl _ _ gb500 25 #[.slice none 0 0, .int .i64 0] (0, 0) _ rfl (by (with_reducible repeat (first | refine kn_ ?_ _ | refine kd_ ?_ | refine ka_ ?_ _)); refine blk_put (cs := #[.slice none 0 0, .int .i64 0]) ?_ 1 _ rfl; (with_reducible repeat (first | refine kn_ ?_ _ | refine kd_ ?_ | refine ka_ ?_ _)); refine blk_put (cs := #[.slice none 0 0, .int .i64 0]) ?_ 0 _ rfl; (with_reducible repeat (first | refine kn_ ?_ _ | refine kd_ ?_ | refine ka_ ?_ _)); exact BK500.out) Tryz.underlying25 rfl (by kernel_rfl)) rfl ?_;exact ⟨_, by first | rfl | (simp [errW_none, errW_some] <;> rfl) | (simp only [← hji8, ← hji12]; first | rfl | (simp [errW_none, errW_some] <;> rfl)) | (simp [*, errW_none, errW_some] <;> rfl), by first | exact Kd.R_nil _ _ _ _ _ | exact Kd.N_nil _ _ _ _ _ | exact Kd.V_nil _ _ _ _ _ | exact Kd.Q_nil _ _ _ _ _ | exact Kd.S_nil _ _ _ _ _, by repeat (first | (with_reducible first | exact (below_step HBW.out HB.out) | apply ba_ | apply bn_ | apply b1_ | refine bs_ ?_ GE500.out | refine bs_ ?_ GE508.out) | exact (below_step HBW.out HB.out))⟩
         ·rw [if_neg c18] at H
          exact absurd H (by simp)
        ·replace c16 := Bool.eq_false_iff.mpr c16
         subst c16
         rw [if_neg (show ¬ (false = true) by decide)] at H
         simp only [Option.some.injEq, Prod.mk.injEq] at H;obtain ⟨rfl, rfl, rfl⟩ := H
         go_wp2_with (first | ((with_reducible refine gc_ 47 ?_); refine goesL_ (some 24) rfl rfl Tryz.func47 (by kernel_rfl) rfl #[.string (a0.extract 0 ((ji8) : Int).toNat), .string (⟨#[32]⟩ : ByteArray)] rfl (by (try simp only [List.map_toArray, List.map_cons, List.map_nil]); first | done | (simp only [hji8]; rfl) | rfl | (simp only [List.length_drop, List.length_take]; rfl)) ?_; (with_reducible refine (strings_Split.calls (a0.extract 0 ((ji8) : Int).toNat) (⟨#[32]⟩ : ByteArray) t502 _ (someInt_ HM.out (bU_ HB)) A11.out).mono ?_); rintro e w49 ⟨v503, rfl, ho0, hb⟩; refine ⟨_, rfl, ?_⟩; have HO504 := M_ (Kd.R_lower ho0 (bZ_ HB)); replace BK500 := M_ (kb_ BK500 hb); replace HB := M_ (bS_ HB hb); clear hb ho0; obtain ⟨Ao50, co50, eo50⟩ := Kd.R_slice HO504.out; subst eo50; have p505 : 0 ≤ ((ji12) : Int) := dT_; have q505 : (ji12) < (t502.length : Int) := dT_; obtain ⟨ad505, e505, hx505_0⟩ := Kd.at_string (Kd.R_reads' HO504.out).2.2 (ji12) p505 q505; cases e505; replace p505 := eq_true p505; replace q505 := eq_true q505) | ((with_reducible refine gc_ 48 ?_); refine goesL_ (some 32) rfl rfl Tryz.func48 (by kernel_rfl) rfl #[.string (rdOf ByteArray.empty t502 (ji12))] rfl (by (try simp only [List.map_toArray, List.map_cons, List.map_nil]); first | done | (simp only [hji12]; rfl) | rfl | (simp only [List.length_drop, List.length_take]; rfl)) ?_; (with_reducible refine (impl_decimal.calls kj1 (rdOf ByteArray.empty t502 (ji12)) t506 false _ A15.out).mono ?_); rintro e w' ⟨rfl, ⟨nd, rfl⟩⟩; refine ⟨_, rfl, ?_⟩; (try (rw [drewN_self w49]; generalize hq_ : World.drewN w49 _ = w49; have n0_ : Aside0 (Kd.R Kd.string 9 w49 w.heap.size (fun _ => True) (.slice (some ad505) t502.length co50) t502) := ⟨by rw [← hq_]; exact (rU_ HO504.out)⟩; have n1_ : Aside0 (w49.heap[gb500]? = some (.cells #[.slice none 0 0, .int .i64 0] 25 (0, 0))) := ⟨by rw [← hq_]; exact (kU_ BK500)⟩; have n2_ : Aside0 (Below w.heap.size w w49) := ⟨by rw [← hq_]; exact (bU_ HB)⟩; clear HO504 BK500 HB hq_; have HO504 := n0_; have BK500 := n1_; have HB := n2_; clear n0_ n1_ n2_)); obtain ⟨hcz51_0, hcz51_1, hfz51_0, hfz51_1⟩ := bq2_ BK500))
         refine bodyPost_ret (results_ct rfl _ _ gb500 25 #[.slice none 0 0, .int .i64 0] (0, 0) _ rfl (by (with_reducible repeat (first | refine kn_ ?_ _ | refine kd_ ?_ | refine ka_ ?_ _)); refine blk_put (cs := #[.slice none 0 0, .int .i64 0]) ?_ 1 _ rfl; (with_reducible repeat (first | refine kn_ ?_ _ | refine kd_ ?_ | refine ka_ ?_ _)); refine blk_put (cs := #[.slice none 0 0, .int .i64 0]) ?_ 0 _ rfl; (with_reducible repeat (first | refine kn_ ?_ _ | refine kd_ ?_ | refine ka_ ?_ _)); exact BK500.out) Tryz.underlying25 rfl (by kernel_rfl)) rfl ?_;exact ⟨_, by first | rfl | (simp [errW_none, errW_some] <;> rfl) | (simp only [← hji8, ← hji12]; first | rfl | (simp [errW_none, errW_some] <;> rfl)) | (simp [*, errW_none, errW_some] <;> rfl), by first | exact Kd.R_nil _ _ _ _ _ | exact Kd.N_nil _ _ _ _ _ | exact Kd.V_nil _ _ _ _ _ | exact Kd.Q_nil _ _ _ _ _ | exact Kd.S_nil _ _ _ _ _, bU_ HB⟩
       ·rw [if_neg c14] at H
        exact absurd H (by simp)
      ·rw [if_neg c13] at H
       exact absurd H (by simp)
     ·rw [if_neg c10] at H
      exact absurd H (by simp)
    ·rw [if_neg c9] at H
     exact absurd H (by simp)

def spec_l1Split.l0 : Nat → ByteArray → Int → List ByteArray → Int → Int → Option (List ByteArray)
 | 0, _, _, _, _, _ => none
 | k + 1, x0, x1, x5, x6, x7 => if x7 < (x0.size : Int) then (if 0 ≤ x7 then (if (bt x0 x7) = x1 then (if 0 ≤ x6 then (if x6 ≤ x7 then (if x7 ≤ (x0.size : Int) then (if x5.length < 8796093022208 then (spec_l1Split.l0 k x0 x1 (x5 ++ [x0.extract (x6 : Int).toNat (x7 : Int).toNat]) (wrap64 (x7 + 1)) (wrap64 (x7 + 1))) else (none)) else (none)) else (none)) else (none)) else (spec_l1Split.l0 k x0 x1 x5 x6 (wrap64 (x7 + 1)))) else (none)) else (if 0 ≤ x6 then (if x6 ≤ (x0.size : Int) then (if x5.length < 8796093022208 then (some (x5 ++ [x0.extract (x6 : Int).toNat x0.size])) else (none)) else (none)) else (none))
def spec_l1Split.f (k : Nat) (a0 : ByteArray) (a1 : Int) : Option (List ByteArray) := spec_l1Split.l0 k a0 a1 ([] : List ByteArray) 0 0
theorem spec_l1Split.mono_l : ∀ k, (∀ y0 y1 y2 y3 y4, LeO (spec_l1Split.l0 k y0 y1 y2 y3 y4) (spec_l1Split.l0 (k + 1) y0 y1 y2 y3 y4))
 | 0 => fun _ _ _ _ _ r h => by simp [spec_l1Split.l0] at h
 | k + 1 => by
  have ih0 := spec_l1Split.mono_l k
  ·intro y0 y1 y2 y3 y4
   unfold spec_l1Split.l0
   exact mo_
theorem spec_l1Split.mono : ∀ a0 a1 k, LeO (spec_l1Split.f k a0 a1) (spec_l1Split.f (k + 1) a0 a1) := by
 intro a0 a1 k;have ih0 := spec_l1Split.mono_l k
 unfold spec_l1Split.f
 exact mo_
set_option maxHeartbeats 8000000 in
set_option maxRecDepth 100000 in
theorem spec_l1Split.calls (k : Nat) (a0 : ByteArray) (a1 : Int) (r : List ByteArray) (w : World) (h : spec_l1Split.f k a0 a1 = some r) :
  Calls Tryz.prog 65 #[.string a0, .int .u8 a1] w fun e w' => ∃ v0_ : Value, e = .returned (v0_) ∧ Kd.R Kd.string 9 w' w.heap.size (fun _ => True) v0_ r ∧ Below w.heap.size w w' := by
 have HB := M_ (Below.refl w.heap.size w)
 have H : (spec_l1Split.l0 k a0 a1 ([] : List ByteArray) 0 0) = some r := h
 clear h
 have H' := M_ H
 clear H
 go_enter Tryz.func65, Tryz.ntmps65
 go_wp2
 go_loopg [5, 6, 7] k (fun kq v5 v6 v7 w' => ∃ (x5_1 : List ByteArray) (x6_1 : Int) (x7_1 : Int), v6 = .int .i64 x6_1 ∧ v7 = .int .i64 x7_1 ∧ Aside0 (spec_l1Split.l0 kq a0 a1 x5_1 x6_1 x7_1 = some r) ∧ Aside0 (kq ≤ k) ∧ Aside0 (Kd.R Kd.string 9 w' w.heap.size (fun _ => True) v5 x5_1) ∧ Aside0 (Below w.heap.size w w'))
 case atStart => exact ⟨(([] : List ByteArray)), (0), (0), eD_, eD_, H', ⟨Nat.le_refl _⟩, ⟨by first | exact Kd.R_nil _ _ _ _ _ | exact Kd.N_nil _ _ _ _ _ | exact Kd.V_nil _ _ _ _ _ | exact Kd.Q_nil _ _ _ _ _ | exact Kd.S_nil _ _ _ _ _⟩, ⟨bU_ HB⟩⟩
 case round =>
  clear H';obtain ⟨x5_1, x6_1, x7_1, rfl, rfl, HA, HK1, HO_5, HB⟩ := hrel
  cases gk with
  | zero => exact absurd HA.out (by simp [spec_l1Split.l0])
  | succ k1 =>
   have H := HA.out;clear HA;simp only [spec_l1Split.l0] at H
   by_cases c3 : x7_1 < (a0.size : Int)
   ·rw [if_pos c3] at H
    have c3b0 : decide (x7_1 < (a0.size : Int)) = true := decide_eq_true c3
    clear c3
    by_cases c4 : 0 ≤ x7_1
    ·rw [if_pos c4] at H
     have c4b0 : decide (0 ≤ x7_1) = true := decide_eq_true c4
     clear c4
     by_cases c6 : (bt a0 x7_1) = a1
     ·rw [if_pos c6] at H
      have c6b0 : ((bt a0 x7_1) == a1) = true := beq_iff_eq.mpr c6
      have c6b1 : ((bt a0 x7_1) != a1) = false := bne_eq_false_iff_eq.mpr c6
      clear c6
      by_cases c7 : 0 ≤ x6_1
      ·rw [if_pos c7] at H
       have c7b0 := eq_true c7
       have c7b1 : decide (0 ≤ x6_1) = true := decide_eq_true c7
       clear c7
       by_cases c8 : x6_1 ≤ x7_1
       ·rw [if_pos c8] at H
        have c8b0 := eq_true c8
        have c8b1 : decide (x6_1 ≤ x7_1) = true := decide_eq_true c8
        clear c8
        by_cases c9 : x7_1 ≤ (a0.size : Int)
        ·rw [if_pos c9] at H
         have c9b0 := eq_true c9
         have c9b1 : decide (x7_1 ≤ (a0.size : Int)) = true := decide_eq_true c9
         clear c9
         by_cases c10 : x5_1.length < 8796093022208
         ·rw [if_pos c10] at H
          have LMc10 := M_ c10;clear c10;obtain ⟨y519, hy519⟩ : ∃ y_ : List ByteArray, y_ = (x5_1 ++ [a0.extract (x6_1 : Int).toNat (x7_1 : Int).toNat]) := ⟨_, rfl⟩
          replace H : (spec_l1Split.l0 k1 a0 a1 y519 (wrap64 (x7_1 + 1)) (wrap64 (x7_1 + 1))) = some r := by first | (rw [hy519]; with_reducible exact H) | (have H2_ := (Option.bind_some _ _).symm.trans H; rw [hy519]; with_reducible exact H2_) | (have H2_ := (Option.bind_some _ _).symm.trans H; with_reducible exact H2_) | with_reducible exact H | (rw [hy519]; exact H) | exact H
          have Ny519 := M_ hy519;clear hy519
          have H' := M_ H
          clear H
          have p5 : 0 ≤ (x7_1 : Int) := dT_
          have q5 : x7_1 < (a0.size : Int) := dT_
          have hx5 := bt_at a0 x7_1;replace p5 := eq_true p5;replace q5 := eq_true q5
          go_wp2_with (first | ((with_reducible refine gate_builtin (b := .append) (xs := #[.tmp 19, .tmp 24]) rfl ?_); at_builtin; refine Kd.R_append Kd.string (w0 := w) w.heap.size rfl (.tmp 19) (.tmp 24) 62 9 (.string ⟨#[]⟩) 16 rfl Tryz.underlying62 info9 rfl (by decide) (by omega) u5 x5_1 (a0.extract (x6_1 : Int).toNat (x7_1 : Int).toNat) [.string (a0.extract (x6_1 : Int).toNat (x7_1 : Int).toNat)] (fun _ => True) (fun _ => False) rfl rfl ?aP (fun _ hk => hk.elim) ?aF ?aO ?aB ?aS ?aL ?_; (case aP => exact rfl); (case aB => exact (bU_ HB)); (case aF => exact (fun _ _ => trivial)); (case aO => exact (rU_ HO_5.out)); (case aS => exact (bZ_ HB)); (case aL => have := LMc10.out; omega); intro v520 w11 ho hb hg hat; rw [← Ny519.out] at ho; replace HB := M_ (hb); have HO521 := M_ (ho); clear HO_5; clear ho hb hg hat))
          go_roundg k1
          case measure => have := HK1.out; omega
          case rel => exact ⟨(y519), (wrap64 (x7_1 + 1)), (wrap64 (x7_1 + 1)), eD_, eD_, H', ⟨by have := HK1.out; omega⟩, ⟨rU_ HO521.out⟩, ⟨bU_ HB⟩⟩
         ·rw [if_neg c10] at H
          exact absurd H (by simp)
        ·rw [if_neg c9] at H
         exact absurd H (by simp)
       ·rw [if_neg c8] at H
        exact absurd H (by simp)
      ·rw [if_neg c7] at H
       exact absurd H (by simp)
     ·rw [if_neg c6] at H
      have c6b0 : ((bt a0 x7_1) == a1) = false := beq_eq_false_iff_ne.mpr c6
      have c6b1 : ((bt a0 x7_1) != a1) = true := bne_iff_ne.mpr c6
      have H' := M_ H
      clear H
      have p5 : 0 ≤ (x7_1 : Int) := dT_
      have q5 : x7_1 < (a0.size : Int) := dT_
      have hx5 := bt_at a0 x7_1;replace p5 := eq_true p5;replace q5 := eq_true q5
      go_wp2
      go_roundg k1
      case measure => have := HK1.out; omega
      case rel => exact ⟨(x5_1), (x6_1), (wrap64 (x7_1 + 1)), eD_, eD_, H', ⟨by have := HK1.out; omega⟩, ⟨rU_ HO_5.out⟩, ⟨bU_ HB⟩⟩
    ·rw [if_neg c4] at H
     exact absurd H (by simp)
   ·rw [if_neg c3] at H
    have c3b0 : decide (x7_1 < (a0.size : Int)) = false := decide_eq_false c3
    clear c3
    by_cases c12 : 0 ≤ x6_1
    ·rw [if_pos c12] at H
     have c12b0 := eq_true c12
     have c12b1 : decide (0 ≤ x6_1) = true := decide_eq_true c12
     clear c12
     by_cases c13 : x6_1 ≤ (a0.size : Int)
     ·rw [if_pos c13] at H
      have c13b0 := eq_true c13
      have c13b1 : decide (x6_1 ≤ (a0.size : Int)) = true := decide_eq_true c13
      clear c13
      by_cases c14 : x5_1.length < 8796093022208
      ·rw [if_pos c14] at H
       have LMc14 := M_ c14;clear c14;obtain ⟨y522, hy522⟩ : ∃ y_ : List ByteArray, y_ = (x5_1 ++ [a0.extract (x6_1 : Int).toNat a0.size]) := ⟨_, rfl⟩
       replace H : (some y522) = some r := by first | (rw [hy522]; with_reducible exact H) | (have H2_ := (Option.bind_some _ _).symm.trans H; rw [hy522]; with_reducible exact H2_) | (have H2_ := (Option.bind_some _ _).symm.trans H; with_reducible exact H2_) | with_reducible exact H | (rw [hy522]; exact H) | exact H
       have Ny522 := M_ hy522;clear hy522;obtain rfl := Option.some.inj H
       go_wp2_with (first | ((with_reducible refine gate_builtin (b := .append) (xs := #[.tmp 28, .tmp 32]) rfl ?_); at_builtin; refine Kd.R_append Kd.string (w0 := w) w.heap.size rfl (.tmp 28) (.tmp 32) 62 9 (.string ⟨#[]⟩) 16 rfl Tryz.underlying62 info9 rfl (by decide) (by omega) u5 x5_1 (a0.extract (x6_1 : Int).toNat a0.size) [.string (a0.extract (x6_1 : Int).toNat a0.size)] (fun _ => True) (fun _ => False) rfl rfl ?aP (fun _ hk => hk.elim) ?aF ?aO ?aB ?aS ?aL ?_; (case aP => exact rfl); (case aB => exact (bU_ HB)); (case aF => exact (fun _ _ => trivial)); (case aO => exact (rU_ HO_5.out)); (case aS => exact (bZ_ HB)); (case aL => have := LMc14.out; omega); intro v523 w15 ho hb hg hat; rw [← Ny522.out] at ho; replace HB := M_ (hb); have HO524 := M_ (ho); clear HO_5; clear ho hb hg hat))
       go_ret
       exact ⟨_, eR_, rU_ HO524.out, bU_ HB⟩
      ·rw [if_neg c14] at H
       exact absurd H (by simp)
     ·rw [if_neg c13] at H
      exact absurd H (by simp)
    ·rw [if_neg c12] at H
     exact absurd H (by simp)

end Go.Proofs.YtpkklbjdhmpjnaaGreatDoor.PFnInstruments
