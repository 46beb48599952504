-- by wip/xprint.py, over the kit's printer
import Derived.Test.YtfpfjnmjekjnhaaGreatDoorPFnScoresx0
import Derived.Test.YtfpfjnmjekjnhaaGreatDoorPFnScoresx2
import Derived.Test.YtfpfjnmjekjnhaaGreatDoorPFnScoresx3
import Derived.Test.YtfpfjnmjekjnhaaGreatDoorPFnScoresx7
import Derived.Test.YtfpfjnmjekjnhaaGreatDoorPFnScoresx8
import Derived.Test.YtfpfjnmjekjnhaaGreatDoorPFnScoresx12
import Derived.Test.YtfpfjnmjekjnhaaGreatDoorPFnScoresx14
namespace Go.Proofs.YtfpfjnmjekjnhaaGreatDoor.PFnScores
open Go.RowKit Go.Proofs.YtfpfjnmjekjnhaaGreatDoorW.PrintWords Go.Proofs.YtfpfjnmjekjnhaaGreatDoorW.PrintLast Go.Proofs.YtfpfjnmjekjnhaaGreatDoorW.PrintMore
attribute [local go_sem] max2_int min2_int max_two min_two max_three min_three max_four min_four   -- for this text's walks alone
set_option linter.unusedVariables false
set_option linter.unusedSimpArgs false

def spec_EndOfScore.f (k : Nat) (l0 : List (S31)) : Option (Int × Bool) := (spec_ntGood.f k l0).bind fun t414 => (if t414 = true then ((spec_ntEnd.f k l0).bind fun t415 => (some (t415, true))) else (some (0, false)))
theorem spec_EndOfScore.mono : ∀ a0 k, LeO (spec_EndOfScore.f k a0) (spec_EndOfScore.f (k + 1) a0) := by
 intro a0 k
 unfold spec_EndOfScore.f
 have m0_ := @spec_ntEnd.mono;have m1_ := @spec_ntGood.mono;exact mo_
set_option maxHeartbeats 8000000 in
set_option maxRecDepth 100000 in
theorem spec_EndOfScore.calls (k : Nat) (A0 : Option Addr) (c0 : Nat) (l0 : List (S31)) (r1 : Int) (r2 : Bool) (w : World) (hr0 : Kd.C k31 w A0 l0.length l0) (hc0 : l0.length ≤ c0) (h : spec_EndOfScore.f k l0 = some (r1, r2)) :
  Calls Tryz.prog 31 #[.slice A0 l0.length c0] w fun e w' => e = .returned (.tuple #[.int .i64 r1, .bool r2]) ∧ Below w.heap.size w w' := by
 have HR0 := M_ hr0;have HC0 := M_ hc0;clear hr0 hc0;have HB := M_ (Below.refl w.heap.size w)
 have H : ((spec_ntGood.f k l0).bind fun t414 => (if t414 = true then ((spec_ntEnd.f k l0).bind fun t415 => (some (t415, true))) else (some (0, false)))) = some (r1, r2) := h
 clear h;replace H := Option.bind_eq_some_iff.mp H;obtain ⟨t414, A20, H⟩ := H;(try dsimp only at H);have A2 := M_ A20;clear A20
 by_cases c3 : t414 = true
 focus
  subst c3
  rw [if_pos rfl] at H
  replace H := Option.bind_eq_some_iff.mp H;obtain ⟨t415, A40, H⟩ := H;replace H : (some (t415, true)) = some (r1, r2) := H;have A4 := M_ A40;clear A40;simp only [Option.some.injEq, Prod.mk.injEq] at H;obtain ⟨rfl, rfl⟩ := H
 rotate_left
 focus
  replace c3 := Bool.eq_false_iff.mpr c3
  subst c3
  rw [if_neg (show ¬ (false = true) by decide)] at H
  simp only [Option.some.injEq, Prod.mk.injEq] at H;obtain ⟨rfl, rfl⟩ := H
 rotate_left
 all_goals
  go_enter Tryz.func31, Tryz.ntmps31
  go_wp2_with (first | ((with_reducible refine gc_ 49 ?_); refine gM_ (some 5) Tryz.func49 #[.slice A0 l0.length c0] ?_; (with_reducible refine (spec_ntGood.calls k _ _ l0 _ _ ?side1 ?side2 A2.out).mono ?_); (case side1 => exact cU_ HR0.out); (case side2 => exact HC0.out); rintro e w5 ⟨rfl, hb⟩; refine ⟨_, rfl, ?_⟩; replace HB := M_ (bS_ HB hb); clear hb) | ((with_reducible refine gc_ 73 ?_); refine gM_ (some 8) Tryz.func73 #[.slice A0 l0.length c0] ?_; (with_reducible refine (spec_ntEnd.calls k _ _ l0 t415 _ ?side1 ?side2 A4.out).mono ?_); (case side1 => exact cU_ (Kd.C_below HR0.out HB.out)); (case side2 => exact HC0.out); rintro e w6 ⟨rfl, hb⟩; refine ⟨_, rfl, ?_⟩; replace HB := M_ (bS_ HB hb); clear hb))
  go_ret2
  exact ⟨eR_, bU_ HB⟩
mutual
def impl_RangeOf.j0 : Nat → List (S31) → Bool → Option (Int × Int × Bool)
 | 0, _, _ => none
 | k + 1, x0, x16 => if x16 = true then (some (0, 0, false)) else (impl_RangeOf.l0 k 96 24 x0 (x0.length : Int) 0)
def impl_RangeOf.l0 : Nat → Int → Int → List (S31) → Int → Int → Option (Int × Int × Bool)
 | 0, _, _, _, _, _ => none
 | k + 1, x5, x6, x17, x18, x19 => if x19 < x18 then (if 0 ≤ x19 then (if x19 < (x17.length : Int) then (impl_RangeOf.l0 k (mn x5 ((rd_T31 x17 x19).f0)) (mx x6 ((rd_T31 x17 x19).f0)) x17 x18 (wrap64 (x19 + 1))) else (none)) else (none)) else (some (x5, x6, true))
end
def impl_RangeOf.f (k : Nat) (l0 : List (S31)) : Option (Int × Int × Bool) := (impl_IsScore.f k l0).bind fun t416 => (if t416 = true then (impl_RangeOf.j0 k l0 ((l0.length : Int) == 0)) else (impl_RangeOf.j0 k l0 true))
theorem impl_RangeOf.mono_l : ∀ k, (∀ y0 y1, LeO (impl_RangeOf.j0 k y0 y1) (impl_RangeOf.j0 (k + 1) y0 y1)) ∧ (∀ y0 y1 y2 y3 y4, LeO (impl_RangeOf.l0 k y0 y1 y2 y3 y4) (impl_RangeOf.l0 (k + 1) y0 y1 y2 y3 y4))
 | 0 => ⟨fun _ _ r h => by simp [impl_RangeOf.j0] at h, fun _ _ _ _ _ r h => by simp [impl_RangeOf.l0] at h⟩
 | k + 1 => by
  obtain ⟨ih0, ih1⟩ := impl_RangeOf.mono_l k;refine ⟨?_, ?_⟩
  ·intro y0 y1
   unfold impl_RangeOf.j0
   have m0_ := @impl_IsScore.mono;exact mo_
  ·intro y0 y1 y2 y3 y4
   unfold impl_RangeOf.l0
   have m0_ := @impl_IsScore.mono;exact mo_
theorem impl_RangeOf.mono : ∀ a0 k, LeO (impl_RangeOf.f k a0) (impl_RangeOf.f (k + 1) a0) := by
 intro a0 k;obtain ⟨ih0, ih1⟩ := impl_RangeOf.mono_l k
 unfold impl_RangeOf.f
 have m0_ := @impl_IsScore.mono;exact mo_
set_option maxHeartbeats 8000000 in
set_option maxRecDepth 100000 in
theorem impl_RangeOf.calls (k : Nat) (A0 : Option Addr) (c0 : Nat) (l0 : List (S31)) (r1 : Int) (r2 : Int) (r3 : Bool) (w : World) (hr0 : Kd.C k31 w A0 l0.length l0) (hc0 : l0.length ≤ c0) (h : impl_RangeOf.f k l0 = some (r1, r2, r3)) :
  Calls Tryz.prog 32 #[.slice A0 l0.length c0] w fun e w' => e = .returned (.tuple #[.int .i64 r1, .int .i64 r2, .bool r3]) ∧ Below w.heap.size w w' := by
 have hu31 := Tryz.underlying31;have HR0 := M_ hr0;have HC0 := M_ hc0;clear hr0 hc0;have HB := M_ (Below.refl w.heap.size w)
 have H : ((impl_IsScore.f k l0).bind fun t416 => (if t416 = true then (impl_RangeOf.j0 k l0 ((l0.length : Int) == 0)) else (impl_RangeOf.j0 k l0 true))) = some (r1, r2, r3) := h
 clear h;have HC2 := M_ H;clear H
 go_enter Tryz.func32, Tryz.ntmps32
 go_upto_region 1 with (fail)
 go_cut [16] (fun v16 wc => ∃ (kq : Nat) (x16_1 : Bool), v16 = .bool x16_1 ∧ Aside0 (impl_RangeOf.j0 kq l0 x16_1 = some (r1, r2, r3)) ∧ Aside0 (kq ≤ k) ∧ Aside0 (Below w.heap.size w wc))
 case first =>
  have H := HC2.out;clear HC2;replace H := Option.bind_eq_some_iff.mp H;obtain ⟨t416, A30, H⟩ := H;(try dsimp only at H);have A3 := M_ A30;clear A30
  by_cases c4 : t416 = true
  focus
   subst c4
   rw [if_pos rfl] at H
  rotate_left
  focus
   replace c4 := Bool.eq_false_iff.mpr c4
   subst c4
   rw [if_neg (show ¬ (false = true) by decide)] at H
  rotate_left
  all_goals
   have H' := M_ H
   clear H
   go_wp2_with (first | ((with_reducible refine gc_ 10 ?_); refine gM_ (some 10) Tryz.func10 #[.slice A0 l0.length c0] ?_; (with_reducible refine (impl_IsScore.calls k _ _ l0 _ _ ?side1 ?side2 A3.out).mono ?_); (case side1 => exact cU_ (Kd.C_below HR0.out HB.out)); (case side2 => exact HC0.out); rintro e w5 ⟨rfl, hb⟩; refine ⟨_, rfl, ?_⟩; replace HB := M_ (bS_ HB hb); clear hb))
   go_meet
  ·case rel => exact ⟨_, (((l0.length : Int) == 0)), eD_, H', ⟨by first | omega | exact Nat.le_refl _⟩, ⟨bU_ HB⟩⟩
  ·case rel => exact ⟨_, (true), eD_, H', ⟨by first | omega | exact Nat.le_refl _⟩, ⟨bU_ HB⟩⟩
 case rest =>
  clear HC2;obtain ⟨kq, x16_1, rfl, HA, HJ1, HB⟩ := hcut
  cases kq with
  | zero => exact absurd HA.out (by simp [impl_RangeOf.j0])
  | succ kj1 =>
   have H := HA.out;clear HA;simp only [impl_RangeOf.j0] at H
   by_cases c7 : x16_1 = true
   ·subst c7
    rw [if_pos rfl] at H
    simp only [Option.some.injEq, Prod.mk.injEq] at H;obtain ⟨rfl, rfl, rfl⟩ := H
    go_wp2
    go_ret3
    exact ⟨eR_, bU_ HB⟩
   ·replace c7 := Bool.eq_false_iff.mpr c7
    subst c7
    rw [if_neg (show ¬ (false = true) by decide)] at H
    have H' := M_ H
    clear H
    go_wp2
    go_loopg [5, 6, 19] kj1 (fun kq v5 v6 v19 w' => ∃ (x5_2 : Int) (x6_2 : Int) (x19_2 : Int), v5 = .int .i64 x5_2 ∧ v6 = .int .i64 x6_2 ∧ v19 = .int .i64 x19_2 ∧ Aside0 (impl_RangeOf.l0 kq x5_2 x6_2 l0 (l0.length : Int) x19_2 = some (r1, r2, r3)) ∧ Aside0 (kq ≤ kj1) ∧ Aside0 (Below w.heap.size w w'))
    case atStart => exact ⟨(96), (24), (0), eD_, eD_, eD_, H', ⟨Nat.le_refl _⟩, ⟨bU_ HB⟩⟩
    case round =>
     clear H';obtain ⟨x5_2, x6_2, x19_2, rfl, rfl, rfl, HA, HK2, HB⟩ := hrel
     cases gk with
     | zero => exact absurd HA.out (by simp [impl_RangeOf.l0])
     | succ k2 =>
      have H := HA.out;clear HA;simp only [impl_RangeOf.l0] at H
      by_cases c8 : x19_2 < (l0.length : Int)
      ·rw [if_pos c8] at H
       have c8b0 : decide (x19_2 < (l0.length : Int)) = true := decide_eq_true c8
       clear c8
       by_cases c9 : 0 ≤ x19_2
       ·rw [if_pos c9] at H
        have c9b0 : decide (0 ≤ x19_2) = true := decide_eq_true c9
        clear c9
        by_cases c10 : x19_2 < (l0.length : Int)
        ·rw [if_pos c10] at H
         have c10b0 : decide (x19_2 < (l0.length : Int)) = true := decide_eq_true c10
         clear c10;obtain ⟨ji11, hji11⟩ : ∃ j_ : Int, (mn x5_2 ((rd_T31 l0 x19_2).f0)) = j_ := ⟨_, rfl⟩
         replace H : (impl_RangeOf.l0 k2 ji11 (mx x6_2 ((rd_T31 l0 x19_2).f0)) l0 (l0.length : Int) (wrap64 (x19_2 + 1))) = some (r1, r2, r3) := by first | (rw [hji11] at H; exact H) | (simp only [hji11] at H ⊢; exact H)
         have hji11_ : (if ((rd_T31 l0 x19_2).f0) < x5_2 then ((rd_T31 l0 x19_2).f0) else x5_2) = ji11 := hji11
         obtain ⟨ji12, hji12⟩ : ∃ j_ : Int, (mx x6_2 ((rd_T31 l0 x19_2).f0)) = j_ := ⟨_, rfl⟩
         replace H : (impl_RangeOf.l0 k2 ji11 ji12 l0 (l0.length : Int) (wrap64 (x19_2 + 1))) = some (r1, r2, r3) := by first | (rw [hji12] at H; exact H) | (simp only [hji12] at H ⊢; exact H)
         have hji12_ : (if x6_2 < ((rd_T31 l0 x19_2).f0) then ((rd_T31 l0 x19_2).f0) else x6_2) = ji12 := hji12
         have H' := M_ H
         clear H
         have p417 : 0 ≤ (x19_2 : Int) := dT_
         have q417 : x19_2 < (l0.length : Int) := dT_
         obtain ⟨ad417, e417, hx417_0, hx417_1, hx417_2⟩ := at_T31 HR0.out x19_2 p417 q417;cases e417;replace hx417_0 := (HB.out.cell (World.block_lt_of_cell? w _ hx417_0)).trans hx417_0;replace hx417_1 := (HB.out.cell (World.block_lt_of_cell? w _ hx417_1)).trans hx417_1;replace hx417_2 := (HB.out.cell (World.block_lt_of_cell? w _ hx417_2)).trans hx417_2;replace p417 := eq_true p417;replace q417 := eq_true q417
         go_wp2_with (first | ((with_reducible refine gate_dst (N := 8) rfl ?_); (try (refine gate_guard (by rfl) ?_; dsimp only)); refine bx_ (N := 8) (cs := #[.int .i64 0, .int .i64 0, .int .i64 0]) (t := 31) ?_; intro gb418 hg w13 hbox hb; have BK418 := M_ (hbox); have GW418 := M_ (gw_ HB hg); have GE418 := M_ (gw_ HB hg); replace HB := M_ (bS_ HB hb); clear hb hbox hg; obtain ⟨hcz14_0, hcz14_1, hcz14_2, hfz14_0, hfz14_1, hfz14_2⟩ := bq3_ BK418))
         go_roundg k2
         case measure => have := HJ1.out; have := HK2.out; omega
         case rel => exact ⟨(ji11), (ji12), (wrap64 (x19_2 + 1)), (by first | rfl | (simp; done) | (simp only [← hji11] <;> (first | rfl | simp)) | (simp [*]; done)), (by first | rfl | (simp; done) | (simp only [← hji12] <;> (first | rfl | simp)) | (simp [*]; done)), eD_, H', ⟨by have := HJ1.out; have := HK2.out; omega⟩, ⟨bU_ HB⟩⟩
        ·rw [if_neg c10] at H
         exact absurd H (by simp)
       ·rw [if_neg c9] at H
        exact absurd H (by simp)
      ·rw [if_neg c8] at H
       have c8b0 : decide (x19_2 < (l0.length : Int)) = false := decide_eq_false c8
       clear c8;simp only [Option.some.injEq, Prod.mk.injEq] at H;obtain ⟨rfl, rfl, rfl⟩ := H
       go_wp2
       go_ret3
       exact ⟨eR_, bU_ HB⟩
def spec_l1Least.f (a0 : Int) (a1 : Int) : Option (Int) := if a0 < a1 then (some a0) else (some a1)
set_option maxHeartbeats 8000000 in
set_option maxRecDepth 100000 in
theorem spec_l1Least.calls (a0 : Int) (a1 : Int) (r : Int) (w : World) (h : spec_l1Least.f a0 a1 = some r) :
  Calls Tryz.prog 74 #[.int .i64 a0, .int .i64 a1] w fun e w' => e = .returned (.int .i64 r) ∧ Drawn0 w w' := by
 have H : (if a0 < a1 then (some a0) else (some a1)) = some r := h
 clear h
 by_cases c3 : a0 < a1
 ·rw [if_pos c3] at H
  have c3b0 : decide (a0 < a1) = true := decide_eq_true c3
  clear c3;obtain rfl := Option.some.inj H
  go_enter Tryz.func74, Tryz.ntmps74
  go_wp2
  go_ret
  exact ⟨by first | rfl | (simp; done) | (simp [*]; done), by repeat (first | exact Drawn0.refl _ | apply Drawn0.step)⟩
 ·rw [if_neg c3] at H
  have c3b0 : decide (a0 < a1) = false := decide_eq_false c3
  clear c3;obtain rfl := Option.some.inj H
  go_enter Tryz.func74, Tryz.ntmps74
  go_wp2
  go_ret
  exact ⟨by first | rfl | (simp; done) | (simp [*]; done), by repeat (first | exact Drawn0.refl _ | apply Drawn0.step)⟩
mutual
def spec_RangeOf.j0 : Nat → List (S31) → Bool → Option (Int × Int × Bool)
 | 0, _, _ => none
 | k + 1, x0, x16 => if x16 = true then (some (0, 0, false)) else (if 0 < (x0.length : Int) then (spec_RangeOf.l0 k ((rd_T31 x0 0).f0) ((rd_T31 x0 0).f0) x0 (x0.length : Int) 0) else (none))
def spec_RangeOf.l0 : Nat → Int → Int → List (S31) → Int → Int → Option (Int × Int × Bool)
 | 0, _, _, _, _, _ => none
 | k + 1, x5, x6, x25, x26, x27 => if x27 < x26 then (if 0 ≤ x27 then (if x27 < (x25.length : Int) then ((spec_l1Least.f x5 ((rd_T31 x25 x27).f0)).bind fun t424 => ((spec_l1Most.f x6 ((rd_T31 x25 x27).f0)).bind fun t425 => (spec_RangeOf.l0 k t424 t425 x25 x26 (wrap64 (x27 + 1))))) else (none)) else (none)) else (some (x5, x6, true))
end
def spec_RangeOf.f (k : Nat) (l0 : List (S31)) : Option (Int × Int × Bool) := (spec_ntGood.f k l0).bind fun t419 => (if t419 = true then (spec_RangeOf.j0 k l0 ((l0.length : Int) == 0)) else (spec_RangeOf.j0 k l0 true))
theorem spec_RangeOf.mono_l : ∀ k, (∀ y0 y1, LeO (spec_RangeOf.j0 k y0 y1) (spec_RangeOf.j0 (k + 1) y0 y1)) ∧ (∀ y0 y1 y2 y3 y4, LeO (spec_RangeOf.l0 k y0 y1 y2 y3 y4) (spec_RangeOf.l0 (k + 1) y0 y1 y2 y3 y4))
 | 0 => ⟨fun _ _ r h => by simp [spec_RangeOf.j0] at h, fun _ _ _ _ _ r h => by simp [spec_RangeOf.l0] at h⟩
 | k + 1 => by
  obtain ⟨ih0, ih1⟩ := spec_RangeOf.mono_l k;refine ⟨?_, ?_⟩
  ·intro y0 y1
   unfold spec_RangeOf.j0
   have m0_ := @spec_ntGood.mono;exact mo_
  ·intro y0 y1 y2 y3 y4
   unfold spec_RangeOf.l0
   have m0_ := @spec_ntGood.mono;exact mo_
theorem spec_RangeOf.mono : ∀ a0 k, LeO (spec_RangeOf.f k a0) (spec_RangeOf.f (k + 1) a0) := by
 intro a0 k;obtain ⟨ih0, ih1⟩ := spec_RangeOf.mono_l k
 unfold spec_RangeOf.f
 have m0_ := @spec_ntGood.mono;exact mo_
set_option maxHeartbeats 8000000 in
set_option maxRecDepth 100000 in
theorem spec_RangeOf.calls (k : Nat) (A0 : Option Addr) (c0 : Nat) (l0 : List (S31)) (r1 : Int) (r2 : Int) (r3 : Bool) (w : World) (hr0 : Kd.C k31 w A0 l0.length l0) (hc0 : l0.length ≤ c0) (h : spec_RangeOf.f k l0 = some (r1, r2, r3)) :
  Calls Tryz.prog 33 #[.slice A0 l0.length c0] w fun e w' => e = .returned (.tuple #[.int .i64 r1, .int .i64 r2, .bool r3]) ∧ Below w.heap.size w w' := by
 have hu31 := Tryz.underlying31;have HR0 := M_ hr0;have HC0 := M_ hc0;clear hr0 hc0;have HB := M_ (Below.refl w.heap.size w)
 have H : ((spec_ntGood.f k l0).bind fun t419 => (if t419 = true then (spec_RangeOf.j0 k l0 ((l0.length : Int) == 0)) else (spec_RangeOf.j0 k l0 true))) = some (r1, r2, r3) := h
 clear h;have HC2 := M_ H;clear H
 go_enter Tryz.func33, Tryz.ntmps33
 go_upto_region 1 with (fail)
 repeat (go_quiet (fail); go_upto_region 1 with (fail))
 go_cut [16] (fun v16 wc => ∃ (kq : Nat) (x16_1 : Bool), v16 = .bool x16_1 ∧ Aside0 (spec_RangeOf.j0 kq l0 x16_1 = some (r1, r2, r3)) ∧ Aside0 (kq ≤ k) ∧ Aside0 (Below w.heap.size w wc))
 case first =>
  have H := HC2.out;clear HC2;replace H := Option.bind_eq_some_iff.mp H;obtain ⟨t419, A30, H⟩ := H;(try dsimp only at H);have A3 := M_ A30;clear A30
  by_cases c4 : t419 = true
  focus
   subst c4
   rw [if_pos rfl] at H
  rotate_left
  focus
   replace c4 := Bool.eq_false_iff.mpr c4
   subst c4
   rw [if_neg (show ¬ (false = true) by decide)] at H
  rotate_left
  all_goals
   have H' := M_ H
   clear H
   go_wp2_with (first | (go_at_call 49; (with_reducible refine (spec_ntGood.calls k _ _ l0 _ _ ?side1 ?side2 A3.out).mono ?_); (case side1 => exact cU_ (Kd.C_below HR0.out HB.out)); (case side2 => exact HC0.out); rintro e w5 ⟨rfl, hb⟩; replace HB := M_ (bS_ HB hb); clear hb))
   repeat (go_quiet (first | (go_at_call 49; (with_reducible refine (spec_ntGood.calls k _ _ l0 _ _ ?side1 ?side2 A3.out).mono ?_); (case side1 => exact cU_ (Kd.C_below HR0.out HB.out)); (case side2 => exact HC0.out); rintro e w5 ⟨rfl, hb⟩; replace HB := M_ (bS_ HB hb); clear hb)); try go_wp2_with (first | (go_at_call 49; (with_reducible refine (spec_ntGood.calls k _ _ l0 _ _ ?side1 ?side2 A3.out).mono ?_); (case side1 => exact cU_ (Kd.C_below HR0.out HB.out)); (case side2 => exact HC0.out); rintro e w5 ⟨rfl, hb⟩; replace HB := M_ (bS_ HB hb); clear hb)))
   go_meet
  ·case rel => exact ⟨_, (((l0.length : Int) == 0)), eD_, H', ⟨by first | omega | exact Nat.le_refl _⟩, ⟨bU_ HB⟩⟩
  ·case rel => exact ⟨_, (true), eD_, H', ⟨by first | omega | exact Nat.le_refl _⟩, ⟨bU_ HB⟩⟩
 case rest =>
  clear HC2;obtain ⟨kq, x16_1, rfl, HA, HJ1, HB⟩ := hcut
  cases kq with
  | zero => exact absurd HA.out (by simp [spec_RangeOf.j0])
  | succ kj1 =>
   have H := HA.out;clear HA;simp only [spec_RangeOf.j0] at H
   by_cases c7 : x16_1 = true
   ·subst c7
    rw [if_pos rfl] at H
    simp only [Option.some.injEq, Prod.mk.injEq] at H;obtain ⟨rfl, rfl, rfl⟩ := H
    go_wp2
    repeat (go_quiet (fail); try go_wp2)
    go_ret3
    exact ⟨eR_, bU_ HB⟩
   ·replace c7 := Bool.eq_false_iff.mpr c7
    subst c7
    rw [if_neg (show ¬ (false = true) by decide)] at H
    by_cases c8 : 0 < (l0.length : Int)
    ·rw [if_pos c8] at H
     have c8b0 : decide (0 < (l0.length : Int)) = true := decide_eq_true c8
     have c8b1 : decide (0 < l0.length) = true := decide_eq_true (by omega)
     clear c8
     have H' := M_ H
     clear H
     have p420 : 0 ≤ (0 : Int) := (by omega)
     have q420 : 0 < (l0.length : Int) := dT_
     obtain ⟨ad420, e420, hx420_0, hx420_1, hx420_2⟩ := at_T31 HR0.out 0 p420 q420;cases e420
     have qi420 : (0 < l0.length) = True := eq_true (by omega)
     (try rw [show ((0 : Int)).toNat = 0 from rfl] at hx420_0)
     (try rw [show 0 * 3 = 0 from rfl] at hx420_0)
     (try rw [Addr.add_zero'] at hx420_0)
     (try rw [show ((0 : Int)).toNat = 0 from rfl] at hx420_1)
     (try rw [show 0 * 3 = 0 from rfl] at hx420_1)
     (try rw [Addr.add_zero'] at hx420_1)
     (try rw [show ((0 : Int)).toNat = 0 from rfl] at hx420_2)
     (try rw [show 0 * 3 = 0 from rfl] at hx420_2)
     (try rw [Addr.add_zero'] at hx420_2)
     replace hx420_0 := (HB.out.cell (World.block_lt_of_cell? w _ hx420_0)).trans hx420_0;replace hx420_1 := (HB.out.cell (World.block_lt_of_cell? w _ hx420_1)).trans hx420_1;replace hx420_2 := (HB.out.cell (World.block_lt_of_cell? w _ hx420_2)).trans hx420_2;replace p420 := eq_true p420;replace q420 := eq_true q420
     have p421 : 0 ≤ (0 : Int) := (by omega)
     have q421 : 0 < (l0.length : Int) := dT_
     obtain ⟨ad421, e421, hx421_0, hx421_1, hx421_2⟩ := at_T31 HR0.out 0 p421 q421;obtain rfl : ad420 = ad421 := (by injection e421)
     have qi421 : (0 < l0.length) = True := eq_true (by omega)
     (try rw [show ((0 : Int)).toNat = 0 from rfl] at hx421_0)
     (try rw [show 0 * 3 = 0 from rfl] at hx421_0)
     (try rw [Addr.add_zero'] at hx421_0)
     (try rw [show ((0 : Int)).toNat = 0 from rfl] at hx421_1)
     (try rw [show 0 * 3 = 0 from rfl] at hx421_1)
     (try rw [Addr.add_zero'] at hx421_1)
     (try rw [show ((0 : Int)).toNat = 0 from rfl] at hx421_2)
     (try rw [show 0 * 3 = 0 from rfl] at hx421_2)
     (try rw [Addr.add_zero'] at hx421_2)
     replace hx421_0 := (HB.out.cell (World.block_lt_of_cell? w _ hx421_0)).trans hx421_0;replace hx421_1 := (HB.out.cell (World.block_lt_of_cell? w _ hx421_1)).trans hx421_1;replace hx421_2 := (HB.out.cell (World.block_lt_of_cell? w _ hx421_2)).trans hx421_2;replace p421 := eq_true p421;replace q421 := eq_true q421
     go_wp2
     repeat (go_quiet (fail); try go_wp2)
     go_loopg [5, 6, 27] kj1 (fun kq v5 v6 v27 w' => ∃ (x5_2 : Int) (x6_2 : Int) (x27_2 : Int), v5 = .int .i64 x5_2 ∧ v6 = .int .i64 x6_2 ∧ v27 = .int .i64 x27_2 ∧ Aside0 (spec_RangeOf.l0 kq x5_2 x6_2 l0 (l0.length : Int) x27_2 = some (r1, r2, r3)) ∧ Aside0 (kq ≤ kj1) ∧ Aside0 (Below w.heap.size w w'))
     case atStart => exact ⟨((rd_T31 l0 0).f0), ((rd_T31 l0 0).f0), (0), eD_, eD_, eD_, H', ⟨Nat.le_refl _⟩, ⟨bU_ HB⟩⟩
     case round =>
      clear H';(try clear qi4);obtain ⟨x5_2, x6_2, x27_2, rfl, rfl, rfl, HA, HK2, HB⟩ := hrel
      cases gk with
      | zero => exact absurd HA.out (by simp [spec_RangeOf.l0])
      | succ k2 =>
       have H := HA.out;clear HA;simp only [spec_RangeOf.l0] at H
       by_cases c9 : x27_2 < (l0.length : Int)
       ·rw [if_pos c9] at H
        have c9b0 : decide (x27_2 < (l0.length : Int)) = true := decide_eq_true c9
        clear c9
        by_cases c10 : 0 ≤ x27_2
        ·rw [if_pos c10] at H
         have c10b0 : decide (0 ≤ x27_2) = true := decide_eq_true c10
         clear c10
         by_cases c11 : x27_2 < (l0.length : Int)
         ·rw [if_pos c11] at H
          have c11b0 : decide (x27_2 < (l0.length : Int)) = true := decide_eq_true c11
          clear c11;replace H := Option.bind_eq_some_iff.mp H;obtain ⟨t424, A120, H⟩ := H;(try dsimp only at H);have A12 := M_ A120;clear A120;replace H := Option.bind_eq_some_iff.mp H;obtain ⟨t425, A130, H⟩ := H;(try dsimp only at H);have A13 := M_ A130;clear A130
          have H' := M_ H
          clear H
          have p422 : 0 ≤ (x27_2 : Int) := dT_
          have q422 : x27_2 < (l0.length : Int) := dT_
          obtain ⟨ad422, e422, hx422_0, hx422_1, hx422_2⟩ := at_T31 HR0.out x27_2 p422 q422;obtain rfl : ad420 = ad422 := (by injection e422);replace hx422_0 := (HB.out.cell (World.block_lt_of_cell? w _ hx422_0)).trans hx422_0;replace hx422_1 := (HB.out.cell (World.block_lt_of_cell? w _ hx422_1)).trans hx422_1;replace hx422_2 := (HB.out.cell (World.block_lt_of_cell? w _ hx422_2)).trans hx422_2;replace p422 := eq_true p422;replace q422 := eq_true q422
          go_wp2_with (first | ((with_reducible refine gate_dst (N := 8) rfl ?_); (try (refine gate_guard (by rfl) ?_; dsimp only)); refine bx_ (N := 8) (cs := #[.int .i64 0, .int .i64 0, .int .i64 0]) (t := 31) ?_; intro gb423 hg w14 hbox hb; have BK423 := M_ (hbox); have GW423 := M_ (gw_ HB hg); have GE423 := M_ (gw_ HB hg); replace HB := M_ (bS_ HB hb); clear hb hbox hg; obtain ⟨hcz15_0, hcz15_1, hcz15_2, hfz15_0, hfz15_1, hfz15_2⟩ := bq3_ BK423) | (go_at_call 74; (with_reducible refine (spec_l1Least.calls x5_2 ((rd_T31 l0 x27_2).f0) t424 _ A12.out).mono ?_); rintro e w' ⟨rfl, ⟨nd, rfl⟩⟩; (try first | exact ⟨rfl, _, World.drewN_drewN _ _ _⟩ | exact ⟨rfl, _, Eq.trans (World.drewN_drewN _ _ _) (congrArg (World.drewN _) (Nat.add_assoc _ _ _))⟩)) | (go_at_call 75; (with_reducible refine (spec_l1Most.calls x6_2 ((rd_T31 l0 x27_2).f0) t425 _ A13.out).mono ?_); rintro e w' ⟨rfl, ⟨nd, rfl⟩⟩; (try first | exact ⟨rfl, _, World.drewN_drewN _ _ _⟩ | exact ⟨rfl, _, Eq.trans (World.drewN_drewN _ _ _) (congrArg (World.drewN _) (Nat.add_assoc _ _ _))⟩)))
          repeat (go_quiet (first | ((with_reducible refine gate_dst (N := 8) rfl ?_); (try (refine gate_guard (by rfl) ?_; dsimp only)); refine bx_ (N := 8) (cs := #[.int .i64 0, .int .i64 0, .int .i64 0]) (t := 31) ?_; intro gb423 hg w14 hbox hb; have BK423 := M_ (hbox); have GW423 := M_ (gw_ HB hg); have GE423 := M_ (gw_ HB hg); replace HB := M_ (bS_ HB hb); clear hb hbox hg; obtain ⟨hcz15_0, hcz15_1, hcz15_2, hfz15_0, hfz15_1, hfz15_2⟩ := bq3_ BK423) | (go_at_call 74; (with_reducible refine (spec_l1Least.calls x5_2 ((rd_T31 l0 x27_2).f0) t424 _ A12.out).mono ?_); rintro e w' ⟨rfl, ⟨nd, rfl⟩⟩; (try first | exact ⟨rfl, _, World.drewN_drewN _ _ _⟩ | exact ⟨rfl, _, Eq.trans (World.drewN_drewN _ _ _) (congrArg (World.drewN _) (Nat.add_assoc _ _ _))⟩)) | (go_at_call 75; (with_reducible refine (spec_l1Most.calls x6_2 ((rd_T31 l0 x27_2).f0) t425 _ A13.out).mono ?_); rintro e w' ⟨rfl, ⟨nd, rfl⟩⟩; (try first | exact ⟨rfl, _, World.drewN_drewN _ _ _⟩ | exact ⟨rfl, _, Eq.trans (World.drewN_drewN _ _ _) (congrArg (World.drewN _) (Nat.add_assoc _ _ _))⟩))); try go_wp2_with (first | ((with_reducible refine gate_dst (N := 8) rfl ?_); (try (refine gate_guard (by rfl) ?_; dsimp only)); refine bx_ (N := 8) (cs := #[.int .i64 0, .int .i64 0, .int .i64 0]) (t := 31) ?_; intro gb423 hg w14 hbox hb; have BK423 := M_ (hbox); have GW423 := M_ (gw_ HB hg); have GE423 := M_ (gw_ HB hg); replace HB := M_ (bS_ HB hb); clear hb hbox hg; obtain ⟨hcz15_0, hcz15_1, hcz15_2, hfz15_0, hfz15_1, hfz15_2⟩ := bq3_ BK423) | (go_at_call 74; (with_reducible refine (spec_l1Least.calls x5_2 ((rd_T31 l0 x27_2).f0) t424 _ A12.out).mono ?_); rintro e w' ⟨rfl, ⟨nd, rfl⟩⟩; (try first | exact ⟨rfl, _, World.drewN_drewN _ _ _⟩ | exact ⟨rfl, _, Eq.trans (World.drewN_drewN _ _ _) (congrArg (World.drewN _) (Nat.add_assoc _ _ _))⟩)) | (go_at_call 75; (with_reducible refine (spec_l1Most.calls x6_2 ((rd_T31 l0 x27_2).f0) t425 _ A13.out).mono ?_); rintro e w' ⟨rfl, ⟨nd, rfl⟩⟩; (try first | exact ⟨rfl, _, World.drewN_drewN _ _ _⟩ | exact ⟨rfl, _, Eq.trans (World.drewN_drewN _ _ _) (congrArg (World.drewN _) (Nat.add_assoc _ _ _))⟩))))
          go_roundg k2
          case measure => have := HJ1.out; have := HK2.out; omega
          case rel => exact ⟨(t424), (t425), (wrap64 (x27_2 + 1)), eD_, eD_, eD_, H', ⟨by have := HJ1.out; have := HK2.out; omega⟩, ⟨bU_ HB⟩⟩
         ·rw [if_neg c11] at H
          exact absurd H (by simp)
        ·rw [if_neg c10] at H
         exact absurd H (by simp)
       ·rw [if_neg c9] at H
        have c9b0 : decide (x27_2 < (l0.length : Int)) = false := decide_eq_false c9
        clear c9;simp only [Option.some.injEq, Prod.mk.injEq] at H;obtain ⟨rfl, rfl, rfl⟩ := H
        go_wp2
        repeat (go_quiet (fail); try go_wp2)
        go_ret3
        exact ⟨eR_, bU_ HB⟩
    ·rw [if_neg c8] at H
     exact absurd H (by simp)
def laws_pIn.l0 : Nat → Int → List Int → Int → Int → Option (Bool)
 | 0, _, _, _, _ => none
 | k + 1, x1, x7, x8, x9 => if x9 < x8 then (if 0 ≤ x9 then (if x9 < (x7.length : Int) then (if (rd x7 x9) = x1 then (some true) else (laws_pIn.l0 k x1 x7 x8 (wrap64 (x9 + 1)))) else (none)) else (none)) else (some false)
def laws_pIn.f (k : Nat) (l0 : List Int) (a1 : Int) : Option (Bool) := laws_pIn.l0 k a1 l0 (l0.length : Int) 0
theorem laws_pIn.mono_l : ∀ k, (∀ y0 y1 y2 y3, LeO (laws_pIn.l0 k y0 y1 y2 y3) (laws_pIn.l0 (k + 1) y0 y1 y2 y3))
 | 0 => fun _ _ _ _ r h => by simp [laws_pIn.l0] at h
 | k + 1 => by
  have ih0 := laws_pIn.mono_l k
  ·intro y0 y1 y2 y3
   unfold laws_pIn.l0
   exact mo_
theorem laws_pIn.mono : ∀ a0 a1 k, LeO (laws_pIn.f k a0 a1) (laws_pIn.f (k + 1) a0 a1) := by
 intro a0 a1 k;have ih0 := laws_pIn.mono_l k
 unfold laws_pIn.f
 exact mo_
set_option maxHeartbeats 8000000 in
set_option maxRecDepth 100000 in
theorem laws_pIn.calls (k : Nat) (A0 : Option Addr) (c0 : Nat) (l0 : List Int) (a1 : Int) (r : Bool) (w : World) (hr0 : Kd.C (Kd.int .i64) w A0 l0.length l0) (hc0 : l0.length ≤ c0) (h : laws_pIn.f k l0 a1 = some r) :
  Calls Tryz.prog 34 #[.slice A0 l0.length c0, .int .i64 a1] w fun e w' => e = .returned (.bool r) ∧ Drawn0 w w' := by
 have HR0 := M_ hr0;have HC0 := M_ hc0;clear hr0 hc0
 have H : (laws_pIn.l0 k a1 l0 (l0.length : Int) 0) = some r := h
 clear h
 have H' := M_ H
 clear H
 go_enter Tryz.func34, Tryz.ntmps34
 go_wp2
 go_loopg [9] k (fun kq v9 w' => ∃ (x9_1 : Int), v9 = .int .i64 x9_1 ∧ Aside0 (laws_pIn.l0 kq a1 l0 (l0.length : Int) x9_1 = some r) ∧ Aside0 (kq ≤ k) ∧ Drawn0 w w')
 case atStart => exact ⟨(0), eD_, H', ⟨Nat.le_refl _⟩, by repeat (first | exact Drawn0.refl _ | apply Drawn0.step)⟩
 case round =>
  clear H';obtain ⟨x9_1, rfl, HA, HK1, ⟨m1, rfl⟩⟩ := hrel
  cases gk with
  | zero => exact absurd HA.out (by simp [laws_pIn.l0])
  | succ k1 =>
   have H := HA.out;clear HA;simp only [laws_pIn.l0] at H
   by_cases c3 : x9_1 < (l0.length : Int)
   ·rw [if_pos c3] at H
    have c3b0 : decide (x9_1 < (l0.length : Int)) = true := decide_eq_true c3
    clear c3
    by_cases c4 : 0 ≤ x9_1
    ·rw [if_pos c4] at H
     have c4b0 : decide (0 ≤ x9_1) = true := decide_eq_true c4
     clear c4
     by_cases c5 : x9_1 < (l0.length : Int)
     ·rw [if_pos c5] at H
      have c5b0 : decide (x9_1 < (l0.length : Int)) = true := decide_eq_true c5
      clear c5
      by_cases c6 : (rd l0 x9_1) = a1
      ·rw [if_pos c6] at H
       have c6b0 : ((rd l0 x9_1) == a1) = true := beq_iff_eq.mpr c6
       have c6b1 : ((rd l0 x9_1) != a1) = false := bne_eq_false_iff_eq.mpr c6
       clear c6;obtain rfl := Option.some.inj H
       have p426 : 0 ≤ (x9_1 : Int) := dT_
       have q426 : x9_1 < (l0.length : Int) := dT_
       obtain ⟨ad426, e426, hx426_0⟩ := Kd.at_int HR0.out x9_1 p426 q426;cases e426;replace p426 := eq_true p426;replace q426 := eq_true q426
       go_wp2
       go_ret
       exact ⟨by first | rfl | (simp; done) | (simp [*]; done), by repeat (first | exact Drawn0.refl _ | apply Drawn0.step)⟩
      ·rw [if_neg c6] at H
       have c6b0 : ((rd l0 x9_1) == a1) = false := beq_eq_false_iff_ne.mpr c6
       have c6b1 : ((rd l0 x9_1) != a1) = true := bne_iff_ne.mpr c6
       have H' := M_ H
       clear H
       have p426 : 0 ≤ (x9_1 : Int) := dT_
       have q426 : x9_1 < (l0.length : Int) := dT_
       obtain ⟨ad426, e426, hx426_0⟩ := Kd.at_int HR0.out x9_1 p426 q426;cases e426;replace p426 := eq_true p426;replace q426 := eq_true q426
       go_wp2
       go_roundg k1
       case measure => have := HK1.out; omega
       case rel => exact ⟨(wrap64 (x9_1 + 1)), eD_, H', ⟨by have := HK1.out; omega⟩, by repeat (first | exact Drawn0.refl _ | apply Drawn0.step)⟩
     ·rw [if_neg c5] at H
      exact absurd H (by simp)
    ·rw [if_neg c4] at H
     exact absurd H (by simp)
   ·rw [if_neg c3] at H
    have c3b0 : decide (x9_1 < (l0.length : Int)) = false := decide_eq_false c3
    clear c3;obtain rfl := Option.some.inj H
    go_wp2
    go_ret
    exact ⟨by first | rfl | (simp; done) | (simp [*]; done), by repeat (first | exact Drawn0.refl _ | apply Drawn0.step)⟩
def spec_DrawTransposeScore.f (k : Nat) (l0 : List Int) : Option ((List (S31)) × Int) := (newCur.f l0).bind fun bt427 => ((spec_l1Cur_anyScore.f k bt427.1 bt427.2.1 bt427.2.2).bind fun bt431 => ((spec_l1Cur_among.f bt427.1 bt431.2.1 bt431.2.2 (([72, 73, (-72), (-73)] : List Int))).bind fun bt439 => ((spec_l1Cur_among.f bt427.1 bt439.2.1 bt439.2.2 (([0, 1, (-1), 5, 12, (-12), 24, bt439.1] : List Int))).bind fun bt445 => (some (bt431.1, bt445.1)))))
theorem spec_DrawTransposeScore.mono : ∀ a0 k, LeO (spec_DrawTransposeScore.f k a0) (spec_DrawTransposeScore.f (k + 1) a0) := by
 intro a0 k
 unfold spec_DrawTransposeScore.f
 have m0_ := @spec_l1Cur_anyScore.mono;exact mo_
set_option maxHeartbeats 8000000 in
set_option maxRecDepth 100000 in
theorem spec_DrawTransposeScore.calls (k : Nat) (A0 : Option Addr) (c0 : Nat) (l0 : List Int) (r1 : List (S31)) (r2 : Int) (w : World) (hr0 : Kd.C (Kd.int .u8) w A0 l0.length l0) (hc0 : l0.length ≤ c0) (h : spec_DrawTransposeScore.f k l0 = some (r1, r2)) :
  Calls Tryz.prog 35 #[.slice A0 l0.length c0] w fun e w' => ∃ v0_ : Value, e = .returned (.tuple #[v0_, .int .i64 r2]) ∧ Kd.R k31 31 w' w.heap.size (fun _ => True) v0_ r1 ∧ Below w.heap.size w w' := by
 have HR0 := M_ hr0;have HC0 := M_ hc0;clear hr0 hc0;have HB := M_ (Below.refl w.heap.size w)
 have H : ((newCur.f l0).bind fun bt427 => ((spec_l1Cur_anyScore.f k bt427.1 bt427.2.1 bt427.2.2).bind fun bt431 => ((spec_l1Cur_among.f bt427.1 bt431.2.1 bt431.2.2 (([72, 73, (-72), (-73)] : List Int))).bind fun bt439 => ((spec_l1Cur_among.f bt427.1 bt439.2.1 bt439.2.2 (([0, 1, (-1), 5, 12, (-12), 24, bt439.1] : List Int))).bind fun bt445 => (some (bt431.1, bt445.1)))))) = some (r1, r2) := h
 clear h;replace H := Option.bind_eq_some_iff.mp H;obtain ⟨⟨t427, t428, t429⟩, A20, H⟩ := H;(try dsimp only at H);have A2 := M_ A20;clear A20;replace H := Option.bind_eq_some_iff.mp H;obtain ⟨⟨t431, t434, t435⟩, A30, H⟩ := H;(try dsimp only at H);have A3 := M_ A30;clear A30;obtain ⟨y436, hy436⟩ : ∃ y_ : List Int, y_ = (([72, 73, (-72), (-73)] : List Int)) := ⟨_, rfl⟩
 replace H : ((spec_l1Cur_among.f t427 t434 t435 y436).bind fun bt439 => ((spec_l1Cur_among.f t427 bt439.2.1 bt439.2.2 (([0, 1, (-1), 5, 12, (-12), 24, bt439.1] : List Int))).bind fun bt445 => (some (t431, bt445.1)))) = some (r1, r2) := by first | (rw [hy436]; with_reducible exact H) | (have H2_ := (Option.bind_some _ _).symm.trans H; rw [hy436]; with_reducible exact H2_) | (have H2_ := (Option.bind_some _ _).symm.trans H; with_reducible exact H2_) | with_reducible exact H | (rw [hy436]; exact H) | exact H
 have Ny436 := M_ hy436;clear hy436;replace H := Option.bind_eq_some_iff.mp H;obtain ⟨⟨t439, t440, t441⟩, A40, H⟩ := H;(try dsimp only at H);have A4 := M_ A40;clear A40;obtain ⟨y442, hy442⟩ : ∃ y_ : List Int, y_ = (([0, 1, (-1), 5, 12, (-12), 24, t439] : List Int)) := ⟨_, rfl⟩
 replace H : ((spec_l1Cur_among.f t427 t440 t441 y442).bind fun bt445 => (some (t431, bt445.1))) = some (r1, r2) := by first | (rw [hy442]; with_reducible exact H) | (have H2_ := (Option.bind_some _ _).symm.trans H; rw [hy442]; with_reducible exact H2_) | (have H2_ := (Option.bind_some _ _).symm.trans H; with_reducible exact H2_) | with_reducible exact H | (rw [hy442]; exact H) | exact H
 have Ny442 := M_ hy442;clear hy442;replace H := Option.bind_eq_some_iff.mp H;obtain ⟨⟨t445, t446, t447⟩, A50, H⟩ := H;replace H : (some (t431, t445)) = some (r1, r2) := H;have A5 := M_ A50;clear A50;simp only [Option.some.injEq, Prod.mk.injEq] at H;obtain ⟨rfl, rfl⟩ := H
 go_enter Tryz.func35, Tryz.ntmps35
 go_wp2_with (first | ((with_reducible refine gate_dst (N := 7) rfl ?_); refine bx_ (N := 7) (cs := #[.slice A0 l0.length c0, .int .i64 0, .int .u64 0]) (t := 58) ?_; intro g430 hg w6 hbox hb2; have hb := bS_ HB hb2; have hi := newCur_is A2.out (by exact HR0.out) hbox (by rw [hg]; exact (bZ_ HB)); clear hg hbox; replace HB := M_ (hb); have HI430 := M_ (hi); (try clear hb); (try clear hb2); (try clear hk); (try clear hi)) | ((with_reducible refine gc_ 41 ?_); refine gM_ (some 9) Tryz.func41 #[.pointer (some ⟨g430, 0, none⟩)] ?_; (with_reducible refine (spec_l1Cur_anyScore.calls k g430 t427 t428 t429 t431 t434 t435 w _ ?side1 ?side2 A3.out).mono ?_); (case side1 => exact iU_ HI430); (case side2 => exact bU_ HB); rintro e w7 ⟨v432, rfl, ho0, hi, hb, hk⟩; refine ⟨_, rfl, ?_⟩; have HO433 := M_ (Kd.R_lower ho0 (bZ_ HB)); replace HB := M_ (hb); replace HI430 := M_ (hi); clear hb hk hi ho0) | ((with_reducible refine gate_dst (N := 12) rfl ?_); refine lt_ (Kd.int .i64) 3 (N := 12) (([72, 73, (-72), (-73)] : List Int)) [.int .i64 72, .int .i64 73, .int .i64 (-72), .int .i64 (-73)] ri_ ?_; intro v437 w8 ho9 hb hg_ hnew_; clear hg_ hnew_; replace ho9 := rN_ Ny436 ho9; replace HO433 := M_ (rB_ HO433 hb); have HO438 := M_ (Kd.R_lower ho9 (bZ_ HB)); replace HI430 := M_ (IsS58.below (iU_ HI430) hb); replace HB := M_ (bS_ HB hb); clear hb ho9; obtain ⟨Ao10, co10, eo10⟩ := Kd.R_slice HO438.out; subst eo10) | ((with_reducible refine gc_ 50 ?_); refine gM_ (some 13) Tryz.func50 #[.pointer (some ⟨g430, 0, none⟩), .slice Ao10 y436.length co10] ?_; (with_reducible refine (spec_l1Cur_among.calls g430 t427 t434 t435 _ _ y436 t439 t440 t441 w _ ?side1 ?side2 ?side3 ?side4 ?side5 A4.out).mono ?_); (case side1 => exact iU_ HI430); (case side2 => exact bU_ HB); (case side3 => exact cU_ (Kd.R_reads' HO438.out).2.2); (case side4 => exact (Kd.R_reads' HO438.out).2.1); (case side5 => exact far_slice (IsS58.own_ne HI430.out HO438.out (by decide))); rintro e w11 ⟨rfl, hi, hb, hk⟩; refine ⟨_, rfl, ?_⟩; replace HO433 := M_ (ik_ HI430 HO433 hk); replace HO438 := M_ (ik_ HI430 HO438 hk); replace HB := M_ (hb); replace HI430 := M_ (hi); clear hb hk hi) | ((with_reducible refine gate_dst (N := 14) rfl ?_); refine lt_ (Kd.int .i64) 3 (N := 14) (([0, 1, (-1), 5, 12, (-12), 24, t439] : List Int)) [.int .i64 0, .int .i64 1, .int .i64 (-1), .int .i64 5, .int .i64 12, .int .i64 (-12), .int .i64 24, .int .i64 t439] ri_ ?_; intro v443 w12 ho13 hb hg_ hnew_; clear hg_ hnew_; replace ho13 := rN_ Ny442 ho13; replace HO433 := M_ (rB_ HO433 hb); have HO444 := M_ (Kd.R_lower (Kd.R_new' ho13 (rl_ HO438)) (bZ_ HB)); replace HO438 := M_ (re_ HO438 ho13 hb); replace HI430 := M_ (IsS58.below (iU_ HI430) hb); replace HB := M_ (bS_ HB hb); clear hb ho13; obtain ⟨Ao14, co14, eo14⟩ := Kd.R_slice HO444.out; subst eo14) | ((with_reducible refine gc_ 50 ?_); refine gM_ (some 15) Tryz.func50 #[.pointer (some ⟨g430, 0, none⟩), .slice Ao14 y442.length co14] ?_; (with_reducible refine (spec_l1Cur_among.calls g430 t427 t440 t441 _ _ y442 t445 t446 t447 w _ ?side1 ?side2 ?side3 ?side4 ?side5 A5.out).mono ?_); (case side1 => exact iU_ HI430); (case side2 => exact bU_ HB); (case side3 => exact cU_ (Kd.R_reads' HO444.out).2.2); (case side4 => exact (Kd.R_reads' HO444.out).2.1); (case side5 => exact far_slice (IsS58.own_ne HI430.out HO444.out (by decide))); rintro e w15 ⟨rfl, hi, hb, hk⟩; refine ⟨_, rfl, ?_⟩; replace HO433 := M_ (ik_ HI430 HO433 hk); replace HO438 := M_ (ik_ HI430 HO438 hk); replace HO444 := M_ (ik_ HI430 HO444 hk); replace HB := M_ (hb); replace HI430 := M_ (hi); clear hb hk hi))
 go_ret2
 exact ⟨_, eR_, rU_ HO433.out, bU_ HB⟩
end Go.Proofs.YtfpfjnmjekjnhaaGreatDoor.PFnScores
