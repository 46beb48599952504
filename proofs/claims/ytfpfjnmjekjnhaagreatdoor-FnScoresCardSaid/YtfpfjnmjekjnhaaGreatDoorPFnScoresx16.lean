-- by wip/xprint.py, over the kit's printer
import Derived.Test.YtfpfjnmjekjnhaaGreatDoorPFnScoresx0
import Derived.Test.YtfpfjnmjekjnhaaGreatDoorPFnScoresx2
import Derived.Test.YtfpfjnmjekjnhaaGreatDoorPFnScoresx3
import Derived.Test.YtfpfjnmjekjnhaaGreatDoorPFnScoresx4
import Derived.Test.YtfpfjnmjekjnhaaGreatDoorPFnScoresx7
import Derived.Test.YtfpfjnmjekjnhaaGreatDoorPFnScoresx8
import Derived.Test.YtfpfjnmjekjnhaaGreatDoorPFnScoresx12
namespace Go.Proofs.YtfpfjnmjekjnhaaGreatDoor.PFnScores
open Go.RowKit Go.Proofs.YtfpfjnmjekjnhaaGreatDoorW.PrintWords Go.Proofs.YtfpfjnmjekjnhaaGreatDoorW.PrintLast Go.Proofs.YtfpfjnmjekjnhaaGreatDoorW.PrintMore
attribute [local go_sem] max2_int min2_int max_two min_two max_three min_three max_four min_four   -- for this text's walks alone
set_option linter.unusedVariables false
set_option linter.unusedSimpArgs false

mutual
def impl_TransposeScore.j0 : Nat → List (S31) → Int → Bool → Option ((List (S31)) × Bool)
 | 0, _, _, _ => none
 | k + 1, x0, x1, x18 => if x18 = true then (some (([] : List (S31)), false)) else ((clone_Note.f x0).bind fun t449 => (impl_TransposeScore.l0 k x1 t449 (t449.length : Int) 0))
def impl_TransposeScore.l0 : Nat → Int → List (S31) → Int → Int → Option ((List (S31)) × Bool)
 | 0, _, _, _, _ => none
 | k + 1, x1, x6, x22, x23 => if x23 < x22 then (if 0 ≤ x23 then (if x23 < (x6.length : Int) then (impl_TransposeScore.l0 k x1 (x6.set (x23 : Int).toNat (⟨wrap64 (((rd_T31 x6 x23).f0) + x1), (rd_T31 x6 x23).f1, (rd_T31 x6 x23).f2⟩ : S31)) x22 (wrap64 (x23 + 1))) else (none)) else (none)) else ((impl_scoreOf.f k x6).bind fun bt454 => (some (bt454.1, bt454.2)))
end
def impl_TransposeScore.f (k : Nat) (l0 : List (S31)) (a1 : Int) : Option ((List (S31)) × Bool) := (impl_IsScore.f k l0).bind fun t448 => (if t448 = true then (if a1 < (-72) then (impl_TransposeScore.j0 k l0 a1 true) else (impl_TransposeScore.j0 k l0 a1 (decide (a1 > 72)))) else (impl_TransposeScore.j0 k l0 a1 true))
theorem impl_TransposeScore.mono_l : ∀ k, (∀ y0 y1 y2, LeO (impl_TransposeScore.j0 k y0 y1 y2) (impl_TransposeScore.j0 (k + 1) y0 y1 y2)) ∧ (∀ y0 y1 y2 y3, LeO (impl_TransposeScore.l0 k y0 y1 y2 y3) (impl_TransposeScore.l0 (k + 1) y0 y1 y2 y3))
 | 0 => ⟨fun _ _ _ r h => by simp [impl_TransposeScore.j0] at h, fun _ _ _ _ r h => by simp [impl_TransposeScore.l0] at h⟩
 | k + 1 => by
  obtain ⟨ih0, ih1⟩ := impl_TransposeScore.mono_l k;refine ⟨?_, ?_⟩
  ·intro y0 y1 y2
   unfold impl_TransposeScore.j0
   have m0_ := @impl_IsScore.mono;have m1_ := @impl_scoreOf.mono;exact mo_
  ·intro y0 y1 y2 y3
   unfold impl_TransposeScore.l0
   have m0_ := @impl_IsScore.mono;have m1_ := @impl_scoreOf.mono;exact mo_
theorem impl_TransposeScore.mono : ∀ a0 a1 k, LeO (impl_TransposeScore.f k a0 a1) (impl_TransposeScore.f (k + 1) a0 a1) := by
 intro a0 a1 k;obtain ⟨ih0, ih1⟩ := impl_TransposeScore.mono_l k
 unfold impl_TransposeScore.f
 have m0_ := @impl_IsScore.mono;have m1_ := @impl_scoreOf.mono;exact mo_
set_option maxHeartbeats 8000000 in
set_option maxRecDepth 100000 in
theorem impl_TransposeScore.calls (k : Nat) (A0 : Option Addr) (c0 : Nat) (l0 : List (S31)) (a1 : Int) (r1 : List (S31)) (r2 : Bool) (w : World) (hr0 : Kd.C k31 w A0 l0.length l0) (hc0 : l0.length ≤ c0) (h : impl_TransposeScore.f k l0 a1 = some (r1, r2)) :
  Calls Tryz.prog 36 #[.slice A0 l0.length c0, .int .i64 a1] w fun e w' => ∃ v0_ : Value, e = .returned (.tuple #[v0_, .bool r2]) ∧ Kd.R k31 31 w' w.heap.size (fun _ => True) v0_ r1 ∧ Below w.heap.size w w' := by
 have HR0 := M_ hr0;have HC0 := M_ hc0;clear hr0 hc0;have HB := M_ (Below.refl w.heap.size w)
 have H : ((impl_IsScore.f k l0).bind fun t448 => (if t448 = true then (if a1 < (-72) then (impl_TransposeScore.j0 k l0 a1 true) else (impl_TransposeScore.j0 k l0 a1 (decide (a1 > 72)))) else (impl_TransposeScore.j0 k l0 a1 true))) = some (r1, r2) := h
 clear h;have HC3 := M_ H;clear H
 go_enter Tryz.func36, Tryz.ntmps36
 go_upto_region 1 with (fail)
 go_cut [18] (fun v18 wc => ∃ (kq : Nat) (x18_2 : Bool), v18 = .bool x18_2 ∧ Aside0 (impl_TransposeScore.j0 kq l0 a1 x18_2 = some (r1, r2)) ∧ Aside0 (kq ≤ k) ∧ Aside0 (Below w.heap.size w wc))
 case first =>
  have H := HC3.out;clear HC3;replace H := Option.bind_eq_some_iff.mp H;obtain ⟨t448, A40, H⟩ := H;(try dsimp only at H);have A4 := M_ A40;clear A40
  by_cases c5 : t448 = true
  ·subst c5
   rw [if_pos rfl] at H
   by_cases c6 : a1 < (-72)
   focus
    rw [if_pos c6] at H
    have c6b0 : decide (a1 < (-72)) = true := decide_eq_true c6
   rotate_left
   focus
    rw [if_neg c6] at H
    have c6b0 : decide (a1 < (-72)) = false := decide_eq_false c6
   rotate_left
   all_goals
    clear c6
    (first | rw [c6b0] | (simp only [i64_w, i32_w]; rw [c6b0]) | skip)
    have H' := M_ H
    clear H
    go_wp2_with (first | ((with_reducible refine gc_ 10 ?_); refine gM_ (some 9) Tryz.func10 #[.slice A0 l0.length c0] ?_; (with_reducible refine (impl_IsScore.calls k _ _ l0 true _ ?side1 ?side2 A4.out).mono ?_); (case side1 => exact cU_ (Kd.C_below HR0.out HB.out)); (case side2 => exact HC0.out); rintro e w7 ⟨rfl, hb⟩; refine ⟨_, rfl, ?_⟩; replace HB := M_ (bS_ HB hb); clear hb))
    go_meet
   ·case rel => exact ⟨_, (true), eD_, H', ⟨by first | omega | exact Nat.le_refl _⟩, ⟨bU_ HB⟩⟩
   ·case rel => exact ⟨_, (decide (a1 > 72)), eD_, H', ⟨by first | omega | exact Nat.le_refl _⟩, ⟨bU_ HB⟩⟩
  ·replace c5 := Bool.eq_false_iff.mpr c5
   subst c5
   rw [if_neg (show ¬ (false = true) by decide)] at H
   have H' := M_ H
   clear H
   go_wp2_with (first | ((with_reducible refine gc_ 10 ?_); refine gM_ (some 9) Tryz.func10 #[.slice A0 l0.length c0] ?_; (with_reducible refine (impl_IsScore.calls k _ _ l0 false _ ?side1 ?side2 A4.out).mono ?_); (case side1 => exact cU_ (Kd.C_below HR0.out HB.out)); (case side2 => exact HC0.out); rintro e w9 ⟨rfl, hb⟩; refine ⟨_, rfl, ?_⟩; replace HB := M_ (bS_ HB hb); clear hb))
   go_meet
   case rel => exact ⟨_, (true), eD_, H', ⟨by first | omega | exact Nat.le_refl _⟩, ⟨bU_ HB⟩⟩
 case rest =>
  clear HC3;obtain ⟨kq, x18_2, rfl, HA, HJ2, HB⟩ := hcut
  cases kq with
  | zero => exact absurd HA.out (by simp [impl_TransposeScore.j0])
  | succ kj2 =>
   have H := HA.out;clear HA;simp only [impl_TransposeScore.j0] at H
   by_cases c10 : x18_2 = true
   focus
    subst c10
    rw [if_pos rfl] at H
    simp only [Option.some.injEq, Prod.mk.injEq] at H;obtain ⟨rfl, rfl⟩ := H
   rotate_left
   focus
    replace c10 := Bool.eq_false_iff.mpr c10
    subst c10
    rw [if_neg (show ¬ (false = true) by decide)] at H
    replace H := Option.bind_eq_some_iff.mp H;obtain ⟨t449, A110, H⟩ := H;(try dsimp only at H);have A11 := M_ A110;clear A110
    have H' := M_ H
    clear H
   rotate_left
   all_goals
    go_wp2_with (first | ((with_reducible refine gc_ 48 ?_); refine gM_ (some 20) Tryz.func48 #[.slice A0 l0.length c0] ?_; (with_reducible refine (clone_Note.calls _ _ l0 t449 _ ?side1 ?side2 A11.out).mono ?_); (case side1 => exact cU_ (Kd.C_below HR0.out HB.out)); (case side2 => exact HC0.out); rintro e w12 ⟨v450, rfl, ho0, hb⟩; refine ⟨_, rfl, ?_⟩; have HO451 := M_ (Kd.R_lower ho0 (bZ_ HB)); replace HB := M_ (bS_ HB hb); clear hb ho0; obtain ⟨Ao13, co13, eo13⟩ := Kd.R_slice HO451.out; subst eo13))
   ·go_ret2
    exact ⟨_, eR_, by first | exact Kd.R_nil _ _ _ _ _ | exact Kd.N_nil _ _ _ _ _ | exact Kd.V_nil _ _ _ _ _ | exact Kd.Q_nil _ _ _ _ _ | exact Kd.S_nil _ _ _ _ _, bU_ HB⟩
   ·go_loopg [23] kj2 (fun kq v23 w' => ∃ (x6_2 : List (S31)) (x23_2 : Int), v23 = .int .i64 x23_2 ∧ Aside0 (impl_TransposeScore.l0 kq a1 x6_2 (t449.length : Int) x23_2 = some (r1, r2)) ∧ Aside0 (kq ≤ kj2) ∧ Aside0 (Kd.R k31 31 w' w.heap.size (fun _ => True) (.slice Ao13 t449.length co13) x6_2) ∧ Aside0 (Below w.heap.size w w'))
    case atStart => exact ⟨(t449), (0), eD_, H', ⟨Nat.le_refl _⟩, ⟨rU_ HO451.out⟩, ⟨bU_ HB⟩⟩
    case round =>
     clear H';obtain ⟨x6_2, x23_2, rfl, HA, HK2, HO_6, HB⟩ := hrel;have hl6_2 := (Kd.R_reads' HO_6.out).1
     rw [hl6_2] at HO_6
     (try simp only [hl6_2])
     cases gk with
     | zero => exact absurd HA.out (by simp [impl_TransposeScore.l0])
     | succ k2 =>
      have H := HA.out;clear HA;simp only [impl_TransposeScore.l0] at H
      by_cases c14 : x23_2 < (t449.length : Int)
      ·rw [if_pos c14] at H
       have c14b0 : decide (x23_2 < (t449.length : Int)) = true := decide_eq_true c14
       clear c14
       by_cases c15 : 0 ≤ x23_2
       ·rw [if_pos c15] at H
        have c15b0 : decide (0 ≤ x23_2) = true := decide_eq_true c15
        clear c15
        by_cases c16 : x23_2 < (x6_2.length : Int)
        ·rw [if_pos c16] at H
         have c16b0 : decide (x23_2 < (x6_2.length : Int)) = true := decide_eq_true c16
         clear c16;obtain ⟨y453, hy453⟩ : ∃ y_ : List (S31), y_ = (x6_2.set (x23_2 : Int).toNat (⟨wrap64 (((rd_T31 x6_2 x23_2).f0) + a1), (rd_T31 x6_2 x23_2).f1, (rd_T31 x6_2 x23_2).f2⟩ : S31)) := ⟨_, rfl⟩
         replace H : (impl_TransposeScore.l0 k2 a1 y453 (t449.length : Int) (wrap64 (x23_2 + 1))) = some (r1, r2) := by first | (rw [hy453]; with_reducible exact H) | (have H2_ := (Option.bind_some _ _).symm.trans H; rw [hy453]; with_reducible exact H2_) | (have H2_ := (Option.bind_some _ _).symm.trans H; with_reducible exact H2_) | with_reducible exact H | (rw [hy453]; exact H) | exact H
         have Ny453 := M_ hy453;clear hy453
         have H' := M_ H
         clear H
         have p452 : 0 ≤ (x23_2 : Int) := dT_
         have q452 : x23_2 < (x6_2.length : Int) := dT_
         obtain ⟨ad452, e452, hx452_0, hx452_1, hx452_2⟩ := at_T31 (Kd.R_reads' HO_6.out).2.2 x23_2 p452 q452;cases e452;replace p452 := eq_true p452;replace q452 := eq_true q452
         have p17 : 0 ≤ (x23_2 : Int) := dT_
         have q17 : (x23_2 : Int) < ((x6_2.length : Int) : Int) := dT_
         obtain ⟨go17, co17, eo17, gb17, gl17, cl17, HG17⟩ := Kd.R_form HO_6.out (by omega)
         (first | cases eo17 | (injection eo17 with ea_ en_ ec_; (first | subst ea_ | (injection ea_ with ea_; subst ea_)); subst ec_; clear en_))
         have GB17 := M_ gb17;have GG17 := M_ HG17;clear gb17 gl17 HG17
         (first | simp only [add_plain] at hx452_0 | skip)
         (first | simp only [add_plain] at hx452_1 | skip)
         (first | simp only [add_plain] at hx452_2 | skip)
         obtain ⟨ce17, hcl17, hM17, hcc17, hfr17⟩ := Kd.R_elem HO_6.out z31 (x23_2 : Int) p17 q17;obtain rfl := k31_openM hM17
         have hx17_0 : wr.cell? ⟨go17, (x23_2 : Int).toNat * 3, none⟩ = some (.int .i64 ((rd_T31 x6_2 x23_2).f0)) := hcc17 0 _ rfl
         have hx17_1 : wr.cell? ⟨go17, (x23_2 : Int).toNat * 3 + 1, none⟩ = some (.int .i64 ((rd_T31 x6_2 x23_2).f1)) := hcc17 1 _ rfl
         have hx17_2 : wr.cell? ⟨go17, (x23_2 : Int).toNat * 3 + 2, none⟩ = some (.int .i64 ((rd_T31 x6_2 x23_2).f2)) := hcc17 2 _ rfl
         have hf17_0 : wr.frozen? ⟨go17, (x23_2 : Int).toNat * 3, none⟩ = false := hfr17 0
         have hf17_1 : wr.frozen? ⟨go17, (x23_2 : Int).toNat * 3 + 1, none⟩ = false := hfr17 1
         have hf17_2 : wr.frozen? ⟨go17, (x23_2 : Int).toNat * 3 + 2, none⟩ = false := hfr17 2
         clear hcl17 hcc17 hfr17 hM17;replace p17 := eq_true p17;replace q17 := eq_true q17;have HX18 := M_ (show Kd.R k31 31 wr w.heap.size (fun _ => True) (.slice (some ⟨go17, 0, none⟩) x6_2.length co13) x6_2 from (rU_ HO_6.out));obtain ⟨ce18, hcl18, hM18, hcc18, hfr18⟩ := Kd.R_elem HX18.out z31 (x23_2 : Int) (dT_) (by have h_ : (x23_2 : Int) < ((x6_2.length : Int) : Int) := dT_; first | exact h_ | (have e_ := (Kd.R_reads' HO_6.out).1; omega) | simpa using h_);obtain rfl := k31_openM hM18;have HP18 := Kd.R_seg HX18.out (x23_2 : Int) (dT_) (by have h_ : (x23_2 : Int) < ((x6_2.length : Int) : Int) := dT_; first | exact h_ | (have e_ := (Kd.R_reads' HO_6.out).1; omega) | simpa using h_) (seg := [.int .i64 (wrap64 (((rd_T31 x6_2 x23_2).f0) + a1))]) (j := 0) hcl18 hcc18 (show 1 ≤ 3 from by decide) (x' := (⟨wrap64 (((rd_T31 x6_2 x23_2).f0) + a1), (rd_T31 x6_2 x23_2).f1, (rd_T31 x6_2 x23_2).f2⟩ : S31)) (k31_mkM _ _ _ (⟨wrap64 (((rd_T31 x6_2 x23_2).f0) + a1), (rd_T31 x6_2 x23_2).f1, (rd_T31 x6_2 x23_2).f2⟩ : S31) ) (fun _ hk => hk);have hx18_0 := hcc18 0 _ rfl
         (try simp only [show (k31).sz = 3 from rfl, Nat.mul_one, Nat.add_zero] at hx18_0)
         have hf18_0 := hfr18 0
         (try simp only [show (k31).sz = 3 from rfl, Nat.mul_one, Nat.add_zero] at hf18_0)
         clear hcl18 hcc18 hfr18 hM18
         go_wp2_with (first | ((with_reducible refine gate_store (t := 3) (p := 34) rfl ?_); refine store_event (t := 3) (p := 34) (v := ?vo_w19) (w1 := (wr.setCell ⟨go17, (x23_2 : Int).toNat * 3, none⟩ (.int .i64 (wrap64 (((rd_T31 x6_2 x23_2).f0) + a1))))) ?hg ?ho ?hn ?hr ?_; (case ho => rfl); (case hg => rfl); (case hn => rfl); (case hr => first | (go_simp; done) | (go_simp; rfl)); intro w19 hw; have hg : wr.grownBy w19 (some go17) := (by rw [hw]; exact HP18.2); have hp_ : Kd.R k31 31 w19 w.heap.size (fun _ => True) (.slice (some ⟨go17, 0, none⟩) x6_2.length co13) y453 := (by rw [hw, Ny453.out]; exact HP18.1); clear HP18; replace HO_6 := M_ (hp_); replace HB := M_ ((by rw [hw]; exact bs_ (HB.out) GB17.out : Below w.heap.size w w19)); clear hg hw hp_))
         (try simp only [← hl6_2])
         go_roundg k2
         case measure => have := HJ2.out; have := HK2.out; omega
         case rel => exact ⟨(y453), (wrap64 (x23_2 + 1)), eD_, H', ⟨by have := HJ2.out; have := HK2.out; omega⟩, ⟨by (try simp only [hl6_2]); (with_reducible repeat (first | apply ra_ | apply rn_ | apply rd_)); exact HO_6.out⟩, ⟨bU_ HB⟩⟩
        ·rw [if_neg c16] at H
         exact absurd H (by simp)
       ·rw [if_neg c15] at H
        exact absurd H (by simp)
      ·rw [if_neg c14] at H
       have c14b0 : decide (x23_2 < (t449.length : Int)) = false := decide_eq_false c14
       (try simp only [hl6_2] at c14b0)
       clear c14;replace H := Option.bind_eq_some_iff.mp H;obtain ⟨⟨t454, t457⟩, A200, H⟩ := H;replace H : (some (t454, t457)) = some (r1, r2) := H;have A20 := M_ A200;clear A200;simp only [Option.some.injEq, Prod.mk.injEq] at H;obtain ⟨rfl, rfl⟩ := H
       go_wp2_with (first | ((with_reducible refine gc_ 43 ?_); refine gM_ (some 37) Tryz.func43 #[.slice Ao13 x6_2.length co13] ?_; (with_reducible refine (impl_scoreOf.calls k2 (fun k_ => some k_ = (.slice Ao13 x6_2.length co13 : Value).ownBlock) (.slice Ao13 x6_2.length co13) x6_2 t454 t457 w _ ?side1 ?side2 A20.out).mono ?_); (case side1 => exact bU_ HB); (case side2 => exact Kd.R_tight rfl HO_6.out); rintro e w21 ⟨v455, rfl, ho0, hb, hkp⟩; refine ⟨_, rfl, ?_⟩; have HO456 := M_ (rm_ (ok' := fun k_ => True) ho0 (fun k_ hk_ => trivial)); replace HB := M_ (hb); clear HO_6; (try clear hb); (try clear hkp); (try clear ho0)))
       go_ret2
       exact ⟨_, eR_, rU_ HO456.out, bU_ HB⟩
def spec_ntChanged.l0 : Nat → Int → Int → List (S31) → List (S31) → Int → Int → Option ((List (S31)) × Bool)
 | 0, _, _, _, _, _, _ => none
 | k + 1, x1, x2, x8, x11, x12, x13 => if x13 < x12 then (if 0 ≤ x13 then (if x13 < (x11.length : Int) then (if x8.length < 5864062014805 then (spec_ntChanged.l0 k x1 x2 (x8 ++ [(⟨wrap64 (((rd_T31 x11 x13).f0) + x1), wrap64 (((rd_T31 x11 x13).f1) + x2), (rd_T31 x11 x13).f2⟩ : S31)]) x11 x12 (wrap64 (x13 + 1))) else (none)) else (none)) else (none)) else ((spec_ntGood.f k x8).bind fun t463 => (if t463 = true then (some (x8, true)) else (some (([] : List (S31)), false))))
def spec_ntChanged.f (k : Nat) (l0 : List (S31)) (a1 : Int) (a2 : Int) : Option ((List (S31)) × Bool) := spec_ntChanged.l0 k a1 a2 ([] : List (S31)) l0 (l0.length : Int) 0
theorem spec_ntChanged.mono_l : ∀ k, (∀ y0 y1 y2 y3 y4 y5, LeO (spec_ntChanged.l0 k y0 y1 y2 y3 y4 y5) (spec_ntChanged.l0 (k + 1) y0 y1 y2 y3 y4 y5))
 | 0 => fun _ _ _ _ _ _ r h => by simp [spec_ntChanged.l0] at h
 | k + 1 => by
  have ih0 := spec_ntChanged.mono_l k
  ·intro y0 y1 y2 y3 y4 y5
   unfold spec_ntChanged.l0
   have m0_ := @spec_ntGood.mono;exact mo_
theorem spec_ntChanged.mono : ∀ a0 a1 a2 k, LeO (spec_ntChanged.f k a0 a1 a2) (spec_ntChanged.f (k + 1) a0 a1 a2) := by
 intro a0 a1 a2 k;have ih0 := spec_ntChanged.mono_l k
 unfold spec_ntChanged.f
 have m0_ := @spec_ntGood.mono;exact mo_
set_option maxHeartbeats 8000000 in
set_option maxRecDepth 100000 in
theorem spec_ntChanged.calls (k : Nat) (A0 : Option Addr) (c0 : Nat) (l0 : List (S31)) (a1 : Int) (a2 : Int) (r1 : List (S31)) (r2 : Bool) (w : World) (hr0 : Kd.C k31 w A0 l0.length l0) (hc0 : l0.length ≤ c0) (h : spec_ntChanged.f k l0 a1 a2 = some (r1, r2)) :
  Calls Tryz.prog 76 #[.slice A0 l0.length c0, .int .i64 a1, .int .i64 a2] w fun e w' => ∃ v0_ : Value, e = .returned (.tuple #[v0_, .bool r2]) ∧ Kd.R k31 31 w' w.heap.size (fun _ => True) v0_ r1 ∧ Below w.heap.size w w' := by
 have hu31 := Tryz.underlying31;have HR0 := M_ hr0;have HC0 := M_ hc0;clear hr0 hc0;have HB := M_ (Below.refl w.heap.size w)
 have H : (spec_ntChanged.l0 k a1 a2 ([] : List (S31)) l0 (l0.length : Int) 0) = some (r1, r2) := h
 clear h
 have H' := M_ H
 clear H
 go_enter Tryz.func76, Tryz.ntmps76
 go_wp2
 go_loopg [8, 13] k (fun kq v8 v13 w' => ∃ (x8_1 : List (S31)) (x13_1 : Int), v13 = .int .i64 x13_1 ∧ Aside0 (spec_ntChanged.l0 kq a1 a2 x8_1 l0 (l0.length : Int) x13_1 = some (r1, r2)) ∧ Aside0 (kq ≤ k) ∧ Aside0 (Kd.R k31 31 w' w.heap.size (fun _ => True) v8 x8_1) ∧ Aside0 (Below w.heap.size w w'))
 case atStart => exact ⟨(([] : List (S31))), (0), eD_, H', ⟨Nat.le_refl _⟩, ⟨by first | exact Kd.R_nil _ _ _ _ _ | exact Kd.N_nil _ _ _ _ _ | exact Kd.V_nil _ _ _ _ _ | exact Kd.Q_nil _ _ _ _ _ | exact Kd.S_nil _ _ _ _ _⟩, ⟨bU_ HB⟩⟩
 case round =>
  clear H';obtain ⟨x8_1, x13_1, rfl, HA, HK1, HO_8, HB⟩ := hrel
  cases gk with
  | zero => exact absurd HA.out (by simp [spec_ntChanged.l0])
  | succ k1 =>
   have H := HA.out;clear HA;simp only [spec_ntChanged.l0] at H
   by_cases c4 : x13_1 < (l0.length : Int)
   ·rw [if_pos c4] at H
    have c4b0 : decide (x13_1 < (l0.length : Int)) = true := decide_eq_true c4
    clear c4
    by_cases c5 : 0 ≤ x13_1
    ·rw [if_pos c5] at H
     have c5b0 : decide (0 ≤ x13_1) = true := decide_eq_true c5
     clear c5
     by_cases c6 : x13_1 < (l0.length : Int)
     ·rw [if_pos c6] at H
      have c6b0 : decide (x13_1 < (l0.length : Int)) = true := decide_eq_true c6
      clear c6
      by_cases c7 : x8_1.length < 5864062014805
      ·rw [if_pos c7] at H
       have LMc7 := M_ c7;clear c7;obtain ⟨y460, hy460⟩ : ∃ y_ : List (S31), y_ = (x8_1 ++ [(⟨wrap64 (((rd_T31 l0 x13_1).f0) + a1), wrap64 (((rd_T31 l0 x13_1).f1) + a2), (rd_T31 l0 x13_1).f2⟩ : S31)]) := ⟨_, rfl⟩
       replace H : (spec_ntChanged.l0 k1 a1 a2 y460 l0 (l0.length : Int) (wrap64 (x13_1 + 1))) = some (r1, r2) := by first | (rw [hy460]; with_reducible exact H) | (have H2_ := (Option.bind_some _ _).symm.trans H; rw [hy460]; with_reducible exact H2_) | (have H2_ := (Option.bind_some _ _).symm.trans H; with_reducible exact H2_) | with_reducible exact H | (rw [hy460]; exact H) | exact H
       have Ny460 := M_ hy460;clear hy460
       have H' := M_ H
       clear H
       have p458 : 0 ≤ (x13_1 : Int) := dT_
       have q458 : x13_1 < (l0.length : Int) := dT_
       obtain ⟨ad458, e458, hx458_0, hx458_1, hx458_2⟩ := at_T31 HR0.out x13_1 p458 q458;cases e458;replace hx458_0 := (HB.out.cell (World.block_lt_of_cell? w _ hx458_0)).trans hx458_0;replace hx458_1 := (HB.out.cell (World.block_lt_of_cell? w _ hx458_1)).trans hx458_1;replace hx458_2 := (HB.out.cell (World.block_lt_of_cell? w _ hx458_2)).trans hx458_2;replace p458 := eq_true p458;replace q458 := eq_true q458
       go_wp2_with (first | ((with_reducible refine gate_dst (N := 10) rfl ?_); refine bx_ (N := 10) (cs := #[.int .i64 0, .int .i64 0, .int .i64 0]) (t := 31) ?_; intro gb459 hg w8 hbox hb; replace HO_8 := M_ (rb_ (Kd.R_elderB (rU_ HO_8.out) gb459 (Nat.le_of_eq hg.symm)) hb); have BK459 := M_ (hbox); have GW459 := M_ (gw_ HB hg); have GE459 := M_ (gw_ HB hg); replace HB := M_ (bS_ HB hb); clear hb hbox hg; obtain ⟨hcz9_0, hcz9_1, hcz9_2, hfz9_0, hfz9_1, hfz9_2⟩ := bq3_ BK459) | ((with_reducible refine gate_builtin (b := .append) (xs := #[.tmp 17, .tmp 29]) rfl ?_); at_builtin; refine Kd.R_append k31 (w0 := w) w.heap.size rfl (.tmp 17) (.tmp 29) 24 31 (.agg #[(.int .i64 0), (.int .i64 0), (.int .i64 0)]) 24 rfl Tryz.underlying24 info31 rfl (by decide) (by omega) u8 x8_1 (⟨wrap64 (((rd_T31 l0 x13_1).f0) + a1), wrap64 (((rd_T31 l0 x13_1).f1) + a2), (rd_T31 l0 x13_1).f2⟩ : S31) [.int .i64 (wrap64 (((rd_T31 l0 x13_1).f0) + a1)), .int .i64 (wrap64 (((rd_T31 l0 x13_1).f1) + a2)), .int .i64 ((rd_T31 l0 x13_1).f2)] (fun k_ => k_ ≠ gb459) (fun _ => False) rfl (by first | (go_simp; done) | (go_simp; rfl)) ?aP (fun _ hk => hk.elim) ?aF ?aO ?aB ?aS ?aL ?_; (case aP => exact k31_mkM _ _ _ (⟨wrap64 (((rd_T31 l0 x13_1).f0) + a1), wrap64 (((rd_T31 l0 x13_1).f1) + a2), (rd_T31 l0 x13_1).f2⟩ : S31)); (case aB => exact (bU_ HB)); (case aF => exact (fun k_ hk => Kd.freshB (g := gb459) (o := .cells #[.int .i64 ((rd_T31 l0 x13_1).f0), .int .i64 ((rd_T31 l0 x13_1).f1), .int .i64 ((rd_T31 l0 x13_1).f2)] 31 (0, 0)) (by (with_reducible repeat (first | refine kn_ ?_ _ | refine kd_ ?_ | refine ka_ ?_ _)); refine blk_put (cs := #[.int .i64 ((rd_T31 l0 x13_1).f0), .int .i64 ((rd_T31 l0 x13_1).f1), .int .i64 0]) ?_ 2 _ rfl; (with_reducible repeat (first | refine kn_ ?_ _ | refine kd_ ?_ | refine ka_ ?_ _)); refine blk_put (cs := #[.int .i64 ((rd_T31 l0 x13_1).f0), .int .i64 0, .int .i64 0]) ?_ 1 _ rfl; (with_reducible repeat (first | refine kn_ ?_ _ | refine kd_ ?_ | refine ka_ ?_ _)); refine blk_put (cs := #[.int .i64 0, .int .i64 0, .int .i64 0]) ?_ 0 _ rfl; (with_reducible repeat (first | refine kn_ ?_ _ | refine kd_ ?_ | refine ka_ ?_ _)); exact BK459.out) k_ hk)); (case aO => exact (rU_ (rm_ (Kd.R_far (p := ⟨gb459, 2, none⟩) (Kd.R_far (p := ⟨gb459, 1, none⟩) (Kd.R_far (p := ⟨gb459, 0, none⟩) (rm_ HO_8.out (fun k_ hk => (⟨hk, hk.2⟩ : _ ∧ k_ ≠ gb459))) (fun _ hk => hk.2) (.int .i64 ((rd_T31 l0 x13_1).f0))) (fun _ hk => hk.2) (.int .i64 ((rd_T31 l0 x13_1).f1))) (fun _ hk => hk.2) (.int .i64 ((rd_T31 l0 x13_1).f2))) (fun _ hk => hk.1.2)))); (case aS => exact (bZ_ HB)); (case aL => have := LMc7.out; omega); intro v461 w10 ho hb hg hat; rw [← Ny460.out] at ho; replace BK459 := M_ (blk_grown (g := gb459) (o := .cells #[.int .i64 ((rd_T31 l0 x13_1).f0), .int .i64 ((rd_T31 l0 x13_1).f1), .int .i64 ((rd_T31 l0 x13_1).f2)] 31 (0, 0)) (by (with_reducible repeat (first | refine kn_ ?_ _ | refine kd_ ?_ | refine ka_ ?_ _)); refine blk_put (cs := #[.int .i64 ((rd_T31 l0 x13_1).f0), .int .i64 ((rd_T31 l0 x13_1).f1), .int .i64 0]) ?_ 2 _ rfl; (with_reducible repeat (first | refine kn_ ?_ _ | refine kd_ ?_ | refine ka_ ?_ _)); refine blk_put (cs := #[.int .i64 ((rd_T31 l0 x13_1).f0), .int .i64 0, .int .i64 0]) ?_ 1 _ rfl; (with_reducible repeat (first | refine kn_ ?_ _ | refine kd_ ?_ | refine ka_ ?_ _)); refine blk_put (cs := #[.int .i64 0, .int .i64 0, .int .i64 0]) ?_ 0 _ rfl; (with_reducible repeat (first | refine kn_ ?_ _ | refine kd_ ?_ | refine ka_ ?_ _)); exact BK459.out) hg (Kd.R_away HO_8.out (fun _ hk => hk.2))); replace HB := M_ (hb); have HO462 := M_ (ho); clear HO_8; clear ho hb hg hat))
       go_roundg k1
       case measure => have := HK1.out; omega
       case rel => exact ⟨(y460), (wrap64 (x13_1 + 1)), eD_, H', ⟨by have := HK1.out; omega⟩, ⟨by (with_reducible repeat (first | apply ra_ | apply rn_ | apply rd_)); exact rm_ HO462.out (fun _ hk => trivial)⟩, ⟨bU_ HB⟩⟩
      ·rw [if_neg c7] at H
       exact absurd H (by simp)
     ·rw [if_neg c6] at H
      exact absurd H (by simp)
    ·rw [if_neg c5] at H
     exact absurd H (by simp)
   ·rw [if_neg c4] at H
    have c4b0 : decide (x13_1 < (l0.length : Int)) = false := decide_eq_false c4
    clear c4;replace H := Option.bind_eq_some_iff.mp H;obtain ⟨t463, A110, H⟩ := H;(try dsimp only at H);have A11 := M_ A110;clear A110
    by_cases c12 : t463 = true
    focus
     subst c12
     rw [if_pos rfl] at H
    rotate_left
    focus
     replace c12 := Bool.eq_false_iff.mpr c12
     subst c12
     rw [if_neg (show ¬ (false = true) by decide)] at H
    rotate_left
    all_goals
     simp only [Option.some.injEq, Prod.mk.injEq] at H;obtain ⟨rfl, rfl⟩ := H;obtain ⟨Ao13, co13, eo13⟩ := Kd.R_slice HO_8.out;subst eo13
     go_wp2_with (first | ((with_reducible refine gc_ 49 ?_); refine gM_ (some 33) Tryz.func49 #[.slice Ao13 x8_1.length co13] ?_; (with_reducible refine (spec_ntGood.calls k1 _ _ x8_1 _ _ ?side1 ?side2 A11.out).mono ?_); (case side1 => exact cU_ (Kd.R_reads' HO_8.out).2.2); (case side2 => exact (Kd.R_reads' HO_8.out).2.1); rintro e w14 ⟨rfl, hb⟩; refine ⟨_, rfl, ?_⟩; replace HO_8 := M_ (rB_ HO_8 hb); replace HB := M_ (bS_ HB hb); clear hb))
     go_ret2
    ·exact ⟨_, eR_, rU_ HO_8.out, bU_ HB⟩
    ·exact ⟨_, eR_, by first | exact Kd.R_nil _ _ _ _ _ | exact Kd.N_nil _ _ _ _ _ | exact Kd.V_nil _ _ _ _ _ | exact Kd.Q_nil _ _ _ _ _ | exact Kd.S_nil _ _ _ _ _, bU_ HB⟩
def spec_TransposeScore.f (k : Nat) (l0 : List (S31)) (a1 : Int) : Option ((List (S31)) × Bool) := (spec_ntGood.f k l0).bind fun t464 => (if t464 = true then ((spec_l1In.f a1 (-72) 72).bind fun t465 => (if t465 = true then ((spec_ntChanged.f k l0 a1 0).bind fun bt466 => (some (bt466.1, bt466.2))) else (some (([] : List (S31)), false)))) else (some (([] : List (S31)), false)))
theorem spec_TransposeScore.mono : ∀ a0 a1 k, LeO (spec_TransposeScore.f k a0 a1) (spec_TransposeScore.f (k + 1) a0 a1) := by
 intro a0 a1 k
 unfold spec_TransposeScore.f
 have m0_ := @spec_ntChanged.mono;have m1_ := @spec_ntGood.mono;exact mo_
set_option maxHeartbeats 8000000 in
set_option maxRecDepth 100000 in
theorem spec_TransposeScore.calls (k : Nat) (A0 : Option Addr) (c0 : Nat) (l0 : List (S31)) (a1 : Int) (r1 : List (S31)) (r2 : Bool) (w : World) (hr0 : Kd.C k31 w A0 l0.length l0) (hc0 : l0.length ≤ c0) (h : spec_TransposeScore.f k l0 a1 = some (r1, r2)) :
  Calls Tryz.prog 37 #[.slice A0 l0.length c0, .int .i64 a1] w fun e w' => ∃ v0_ : Value, e = .returned (.tuple #[v0_, .bool r2]) ∧ Kd.R k31 31 w' w.heap.size (fun _ => True) v0_ r1 ∧ Below w.heap.size w w' := by
 have HR0 := M_ hr0;have HC0 := M_ hc0;clear hr0 hc0;have HB := M_ (Below.refl w.heap.size w)
 have H : ((spec_ntGood.f k l0).bind fun t464 => (if t464 = true then ((spec_l1In.f a1 (-72) 72).bind fun t465 => (if t465 = true then ((spec_ntChanged.f k l0 a1 0).bind fun bt466 => (some (bt466.1, bt466.2))) else (some (([] : List (S31)), false)))) else (some (([] : List (S31)), false)))) = some (r1, r2) := h
 clear h;replace H := Option.bind_eq_some_iff.mp H;obtain ⟨t464, A30, H⟩ := H;(try dsimp only at H);have A3 := M_ A30;clear A30
 by_cases c4 : t464 = true
 ·subst c4
  rw [if_pos rfl] at H
  replace H := Option.bind_eq_some_iff.mp H;obtain ⟨t465, A50, H⟩ := H;(try dsimp only at H);have A5 := M_ A50;clear A50
  by_cases c6 : t465 = true
  focus
   subst c6
   rw [if_pos rfl] at H
   replace H := Option.bind_eq_some_iff.mp H;obtain ⟨⟨t466, t467⟩, A70, H⟩ := H;replace H : (some (t466, t467)) = some (r1, r2) := H;have A7 := M_ A70;clear A70;simp only [Option.some.injEq, Prod.mk.injEq] at H;obtain ⟨rfl, rfl⟩ := H
  rotate_left
  focus
   replace c6 := Bool.eq_false_iff.mpr c6
   subst c6
   rw [if_neg (show ¬ (false = true) by decide)] at H
   simp only [Option.some.injEq, Prod.mk.injEq] at H;obtain ⟨rfl, rfl⟩ := H
  rotate_left
  all_goals
   go_enter Tryz.func37, Tryz.ntmps37
   go_wp2_with (first | ((with_reducible refine gc_ 49 ?_); refine gM_ (some 7) Tryz.func49 #[.slice A0 l0.length c0] ?_; (with_reducible refine (spec_ntGood.calls k _ _ l0 true _ ?side1 ?side2 A3.out).mono ?_); (case side1 => exact cU_ HR0.out); (case side2 => exact HC0.out); rintro e w8 ⟨rfl, hb⟩; refine ⟨_, rfl, ?_⟩; replace HB := M_ (bS_ HB hb); clear hb) | (go_at_call 52; (with_reducible refine (spec_l1In.calls a1 (-72) 72 _ _ A5.out).mono ?_); rintro e w' ⟨rfl, ⟨nd, rfl⟩⟩) | ((with_reducible refine gc_ 76 ?_); refine gM_ (some 16) Tryz.func76 #[.slice A0 l0.length c0, .int .i64 a1, .int .i64 0] ?_; (with_reducible refine (spec_ntChanged.calls k _ _ l0 a1 0 t466 t467 _ ?side1 ?side2 A7.out).mono ?_); (case side1 => exact cU_ (Kd.C_below HR0.out (bU_ HB))); (case side2 => exact HC0.out); rintro e w9 ⟨v468, rfl, ho0, hb⟩; refine ⟨_, rfl, ?_⟩; have HO469 := M_ (Kd.R_lower ho0 (bZ_ HB)); replace HB := M_ (bS_ HB hb); clear hb ho0))
   go_ret2
  ·exact ⟨_, eR_, rU_ HO469.out, bU_ HB⟩
  ·exact ⟨_, eR_, by first | exact Kd.R_nil _ _ _ _ _ | exact Kd.N_nil _ _ _ _ _ | exact Kd.V_nil _ _ _ _ _ | exact Kd.Q_nil _ _ _ _ _ | exact Kd.S_nil _ _ _ _ _, bU_ HB⟩
 ·replace c4 := Bool.eq_false_iff.mpr c4
  subst c4
  rw [if_neg (show ¬ (false = true) by decide)] at H
  simp only [Option.some.injEq, Prod.mk.injEq] at H;obtain ⟨rfl, rfl⟩ := H
  go_enter Tryz.func37, Tryz.ntmps37
  go_wp2_with (first | ((with_reducible refine gc_ 49 ?_); refine gM_ (some 7) Tryz.func49 #[.slice A0 l0.length c0] ?_; (with_reducible refine (spec_ntGood.calls k _ _ l0 false _ ?side1 ?side2 A3.out).mono ?_); (case side1 => exact cU_ HR0.out); (case side2 => exact HC0.out); rintro e w11 ⟨rfl, hb⟩; refine ⟨_, rfl, ?_⟩; replace HB := M_ (bS_ HB hb); clear hb))
  go_ret2
  exact ⟨_, eR_, by first | exact Kd.R_nil _ _ _ _ _ | exact Kd.N_nil _ _ _ _ _ | exact Kd.V_nil _ _ _ _ _ | exact Kd.Q_nil _ _ _ _ _ | exact Kd.S_nil _ _ _ _ _, bU_ HB⟩
def spec_DrawMoveScore.f (k : Nat) (l0 : List Int) : Option ((List (S31)) × Int) := (newCur.f l0).bind fun bt470 => ((spec_l1Cur_anyScore.f k bt470.1 bt470.2.1 bt470.2.2).bind fun bt474 => ((spec_l1Cur_among.f bt470.1 bt474.2.1 bt474.2.2 (([999, 1000, (-999), (-1000)] : List Int))).bind fun bt482 => ((spec_l1Cur_among.f bt470.1 bt482.2.1 bt482.2.2 (([0, 1, (-1), 4, 40, (-4), 900, bt482.1] : List Int))).bind fun bt488 => (some (bt474.1, bt488.1)))))
theorem spec_DrawMoveScore.mono : ∀ a0 k, LeO (spec_DrawMoveScore.f k a0) (spec_DrawMoveScore.f (k + 1) a0) := by
 intro a0 k
 unfold spec_DrawMoveScore.f
 have m0_ := @spec_l1Cur_anyScore.mono;exact mo_
set_option maxHeartbeats 8000000 in
set_option maxRecDepth 100000 in
theorem spec_DrawMoveScore.calls (k : Nat) (A0 : Option Addr) (c0 : Nat) (l0 : List Int) (r1 : List (S31)) (r2 : Int) (w : World) (hr0 : Kd.C (Kd.int .u8) w A0 l0.length l0) (hc0 : l0.length ≤ c0) (h : spec_DrawMoveScore.f k l0 = some (r1, r2)) :
  Calls Tryz.prog 38 #[.slice A0 l0.length c0] w fun e w' => ∃ v0_ : Value, e = .returned (.tuple #[v0_, .int .i64 r2]) ∧ Kd.R k31 31 w' w.heap.size (fun _ => True) v0_ r1 ∧ Below w.heap.size w w' := by
 have HR0 := M_ hr0;have HC0 := M_ hc0;clear hr0 hc0;have HB := M_ (Below.refl w.heap.size w)
 have H : ((newCur.f l0).bind fun bt470 => ((spec_l1Cur_anyScore.f k bt470.1 bt470.2.1 bt470.2.2).bind fun bt474 => ((spec_l1Cur_among.f bt470.1 bt474.2.1 bt474.2.2 (([999, 1000, (-999), (-1000)] : List Int))).bind fun bt482 => ((spec_l1Cur_among.f bt470.1 bt482.2.1 bt482.2.2 (([0, 1, (-1), 4, 40, (-4), 900, bt482.1] : List Int))).bind fun bt488 => (some (bt474.1, bt488.1)))))) = some (r1, r2) := h
 clear h;replace H := Option.bind_eq_some_iff.mp H;obtain ⟨⟨t470, t471, t472⟩, A20, H⟩ := H;(try dsimp only at H);have A2 := M_ A20;clear A20;replace H := Option.bind_eq_some_iff.mp H;obtain ⟨⟨t474, t477, t478⟩, A30, H⟩ := H;(try dsimp only at H);have A3 := M_ A30;clear A30;obtain ⟨y479, hy479⟩ : ∃ y_ : List Int, y_ = (([999, 1000, (-999), (-1000)] : List Int)) := ⟨_, rfl⟩
 replace H : ((spec_l1Cur_among.f t470 t477 t478 y479).bind fun bt482 => ((spec_l1Cur_among.f t470 bt482.2.1 bt482.2.2 (([0, 1, (-1), 4, 40, (-4), 900, bt482.1] : List Int))).bind fun bt488 => (some (t474, bt488.1)))) = some (r1, r2) := by first | (rw [hy479]; with_reducible exact H) | (have H2_ := (Option.bind_some _ _).symm.trans H; rw [hy479]; with_reducible exact H2_) | (have H2_ := (Option.bind_some _ _).symm.trans H; with_reducible exact H2_) | with_reducible exact H | (rw [hy479]; exact H) | exact H
 have Ny479 := M_ hy479;clear hy479;replace H := Option.bind_eq_some_iff.mp H;obtain ⟨⟨t482, t483, t484⟩, A40, H⟩ := H;(try dsimp only at H);have A4 := M_ A40;clear A40;obtain ⟨y485, hy485⟩ : ∃ y_ : List Int, y_ = (([0, 1, (-1), 4, 40, (-4), 900, t482] : List Int)) := ⟨_, rfl⟩
 replace H : ((spec_l1Cur_among.f t470 t483 t484 y485).bind fun bt488 => (some (t474, bt488.1))) = some (r1, r2) := by first | (rw [hy485]; with_reducible exact H) | (have H2_ := (Option.bind_some _ _).symm.trans H; rw [hy485]; with_reducible exact H2_) | (have H2_ := (Option.bind_some _ _).symm.trans H; with_reducible exact H2_) | with_reducible exact H | (rw [hy485]; exact H) | exact H
 have Ny485 := M_ hy485;clear hy485;replace H := Option.bind_eq_some_iff.mp H;obtain ⟨⟨t488, t489, t490⟩, A50, H⟩ := H;replace H : (some (t474, t488)) = some (r1, r2) := H;have A5 := M_ A50;clear A50;simp only [Option.some.injEq, Prod.mk.injEq] at H;obtain ⟨rfl, rfl⟩ := H
 go_enter Tryz.func38, Tryz.ntmps38
 go_wp2_with (first | ((with_reducible refine gate_dst (N := 7) rfl ?_); refine bx_ (N := 7) (cs := #[.slice A0 l0.length c0, .int .i64 0, .int .u64 0]) (t := 58) ?_; intro g473 hg w6 hbox hb2; have hb := bS_ HB hb2; have hi := newCur_is A2.out (by exact HR0.out) hbox (by rw [hg]; exact (bZ_ HB)); clear hg hbox; replace HB := M_ (hb); have HI473 := M_ (hi); clear hb) | ((with_reducible refine gc_ 41 ?_); refine gM_ (some 9) Tryz.func41 #[.pointer (some ⟨g473, 0, none⟩)] ?_; (with_reducible refine (spec_l1Cur_anyScore.calls k g473 t470 t471 t472 t474 t477 t478 w _ ?side1 ?side2 A3.out).mono ?_); (case side1 => exact iU_ HI473); (case side2 => exact bU_ HB); rintro e w7 ⟨v475, rfl, ho0, hi, hb, hk⟩; refine ⟨_, rfl, ?_⟩; have HO476 := M_ (Kd.R_lower ho0 (bZ_ HB)); replace HB := M_ (hb); replace HI473 := M_ (hi); clear hb hk hi ho0) | ((with_reducible refine gate_dst (N := 12) rfl ?_); refine lt_ (Kd.int .i64) 3 (N := 12) (([999, 1000, (-999), (-1000)] : List Int)) [.int .i64 999, .int .i64 1000, .int .i64 (-999), .int .i64 (-1000)] ri_ ?_; intro v480 w8 ho9 hb hg_ hnew_; clear hg_ hnew_; replace ho9 := rN_ Ny479 ho9; replace HO476 := M_ (rB_ HO476 hb); have HO481 := M_ (Kd.R_lower ho9 (bZ_ HB)); replace HI473 := M_ (IsS58.below (iU_ HI473) hb); replace HB := M_ (bS_ HB hb); clear hb ho9; obtain ⟨Ao10, co10, eo10⟩ := Kd.R_slice HO481.out; subst eo10) | ((with_reducible refine gc_ 50 ?_); refine gM_ (some 13) Tryz.func50 #[.pointer (some ⟨g473, 0, none⟩), .slice Ao10 y479.length co10] ?_; (with_reducible refine (spec_l1Cur_among.calls g473 t470 t477 t478 _ _ y479 t482 t483 t484 w _ ?side1 ?side2 ?side3 ?side4 ?side5 A4.out).mono ?_); (case side1 => exact iU_ HI473); (case side2 => exact bU_ HB); (case side3 => exact cU_ (Kd.R_reads' HO481.out).2.2); (case side4 => exact (Kd.R_reads' HO481.out).2.1); (case side5 => exact far_slice (IsS58.own_ne HI473.out HO481.out (by decide))); rintro e w11 ⟨rfl, hi, hb, hk⟩; refine ⟨_, rfl, ?_⟩; replace HO476 := M_ (ik_ HI473 HO476 hk); replace HO481 := M_ (ik_ HI473 HO481 hk); replace HB := M_ (hb); replace HI473 := M_ (hi); clear hb hk hi) | ((with_reducible refine gate_dst (N := 14) rfl ?_); refine lt_ (Kd.int .i64) 3 (N := 14) (([0, 1, (-1), 4, 40, (-4), 900, t482] : List Int)) [.int .i64 0, .int .i64 1, .int .i64 (-1), .int .i64 4, .int .i64 40, .int .i64 (-4), .int .i64 900, .int .i64 t482] ri_ ?_; intro v486 w12 ho13 hb hg_ hnew_; clear hg_ hnew_; replace ho13 := rN_ Ny485 ho13; replace HO476 := M_ (rB_ HO476 hb); have HO487 := M_ (Kd.R_lower (Kd.R_new' ho13 (rl_ HO481)) (bZ_ HB)); replace HO481 := M_ (re_ HO481 ho13 hb); replace HI473 := M_ (IsS58.below (iU_ HI473) hb); replace HB := M_ (bS_ HB hb); clear hb ho13; obtain ⟨Ao14, co14, eo14⟩ := Kd.R_slice HO487.out; subst eo14) | ((with_reducible refine gc_ 50 ?_); refine gM_ (some 15) Tryz.func50 #[.pointer (some ⟨g473, 0, none⟩), .slice Ao14 y485.length co14] ?_; (with_reducible refine (spec_l1Cur_among.calls g473 t470 t483 t484 _ _ y485 t488 t489 t490 w _ ?side1 ?side2 ?side3 ?side4 ?side5 A5.out).mono ?_); (case side1 => exact iU_ HI473); (case side2 => exact bU_ HB); (case side3 => exact cU_ (Kd.R_reads' HO487.out).2.2); (case side4 => exact (Kd.R_reads' HO487.out).2.1); (case side5 => exact far_slice (IsS58.own_ne HI473.out HO487.out (by decide))); rintro e w15 ⟨rfl, hi, hb, hk⟩; refine ⟨_, rfl, ?_⟩; replace HO476 := M_ (ik_ HI473 HO476 hk); replace HO481 := M_ (ik_ HI473 HO481 hk); replace HO487 := M_ (ik_ HI473 HO487 hk); replace HB := M_ (hb); replace HI473 := M_ (hi); clear hb hk hi))
 go_ret2
 exact ⟨_, eR_, rU_ HO476.out, bU_ HB⟩
mutual
def impl_MoveScore.j0 : Nat → List (S31) → Int → Bool → Option ((List (S31)) × Bool)
 | 0, _, _, _ => none
 | k + 1, x0, x1, x18 => if x18 = true then (some (([] : List (S31)), false)) else ((clone_Note.f x0).bind fun t492 => (impl_MoveScore.l0 k x1 t492 (t492.length : Int) 0))
def impl_MoveScore.l0 : Nat → Int → List (S31) → Int → Int → Option ((List (S31)) × Bool)
 | 0, _, _, _, _ => none
 | k + 1, x1, x6, x22, x23 => if x23 < x22 then (if 0 ≤ x23 then (if x23 < (x6.length : Int) then (impl_MoveScore.l0 k x1 (x6.set (x23 : Int).toNat (⟨(rd_T31 x6 x23).f0, wrap64 (((rd_T31 x6 x23).f1) + x1), (rd_T31 x6 x23).f2⟩ : S31)) x22 (wrap64 (x23 + 1))) else (none)) else (none)) else ((impl_scoreOf.f k x6).bind fun bt497 => (some (bt497.1, bt497.2)))
end
def impl_MoveScore.f (k : Nat) (l0 : List (S31)) (a1 : Int) : Option ((List (S31)) × Bool) := (impl_IsScore.f k l0).bind fun t491 => (if t491 = true then (if a1 < (-999) then (impl_MoveScore.j0 k l0 a1 true) else (impl_MoveScore.j0 k l0 a1 (decide (a1 > 999)))) else (impl_MoveScore.j0 k l0 a1 true))
theorem impl_MoveScore.mono_l : ∀ k, (∀ y0 y1 y2, LeO (impl_MoveScore.j0 k y0 y1 y2) (impl_MoveScore.j0 (k + 1) y0 y1 y2)) ∧ (∀ y0 y1 y2 y3, LeO (impl_MoveScore.l0 k y0 y1 y2 y3) (impl_MoveScore.l0 (k + 1) y0 y1 y2 y3))
 | 0 => ⟨fun _ _ _ r h => by simp [impl_MoveScore.j0] at h, fun _ _ _ _ r h => by simp [impl_MoveScore.l0] at h⟩
 | k + 1 => by
  obtain ⟨ih0, ih1⟩ := impl_MoveScore.mono_l k;refine ⟨?_, ?_⟩
  ·intro y0 y1 y2
   unfold impl_MoveScore.j0
   have m0_ := @impl_IsScore.mono;have m1_ := @impl_scoreOf.mono;exact mo_
  ·intro y0 y1 y2 y3
   unfold impl_MoveScore.l0
   have m0_ := @impl_IsScore.mono;have m1_ := @impl_scoreOf.mono;exact mo_
theorem impl_MoveScore.mono : ∀ a0 a1 k, LeO (impl_MoveScore.f k a0 a1) (impl_MoveScore.f (k + 1) a0 a1) := by
 intro a0 a1 k;obtain ⟨ih0, ih1⟩ := impl_MoveScore.mono_l k
 unfold impl_MoveScore.f
 have m0_ := @impl_IsScore.mono;have m1_ := @impl_scoreOf.mono;exact mo_
set_option maxHeartbeats 8000000 in
set_option maxRecDepth 100000 in
theorem impl_MoveScore.calls (k : Nat) (A0 : Option Addr) (c0 : Nat) (l0 : List (S31)) (a1 : Int) (r1 : List (S31)) (r2 : Bool) (w : World) (hr0 : Kd.C k31 w A0 l0.length l0) (hc0 : l0.length ≤ c0) (h : impl_MoveScore.f k l0 a1 = some (r1, r2)) :
  Calls Tryz.prog 39 #[.slice A0 l0.length c0, .int .i64 a1] w fun e w' => ∃ v0_ : Value, e = .returned (.tuple #[v0_, .bool r2]) ∧ Kd.R k31 31 w' w.heap.size (fun _ => True) v0_ r1 ∧ Below w.heap.size w w' := by
 have HR0 := M_ hr0;have HC0 := M_ hc0;clear hr0 hc0;have HB := M_ (Below.refl w.heap.size w)
 have H : ((impl_IsScore.f k l0).bind fun t491 => (if t491 = true then (if a1 < (-999) then (impl_MoveScore.j0 k l0 a1 true) else (impl_MoveScore.j0 k l0 a1 (decide (a1 > 999)))) else (impl_MoveScore.j0 k l0 a1 true))) = some (r1, r2) := h
 clear h;have HC3 := M_ H;clear H
 go_enter Tryz.func39, Tryz.ntmps39
 go_upto_region 1 with (fail)
 go_cut [18] (fun v18 wc => ∃ (kq : Nat) (x18_2 : Bool), v18 = .bool x18_2 ∧ Aside0 (impl_MoveScore.j0 kq l0 a1 x18_2 = some (r1, r2)) ∧ Aside0 (kq ≤ k) ∧ Aside0 (Below w.heap.size w wc))
 case first =>
  have H := HC3.out;clear HC3;replace H := Option.bind_eq_some_iff.mp H;obtain ⟨t491, A40, H⟩ := H;(try dsimp only at H);have A4 := M_ A40;clear A40
  by_cases c5 : t491 = true
  ·subst c5
   rw [if_pos rfl] at H
   by_cases c6 : a1 < (-999)
   focus
    rw [if_pos c6] at H
    have c6b0 : decide (a1 < (-999)) = true := decide_eq_true c6
   rotate_left
   focus
    rw [if_neg c6] at H
    have c6b0 : decide (a1 < (-999)) = false := decide_eq_false c6
   rotate_left
   all_goals
    clear c6
    (first | rw [c6b0] | (simp only [i64_w, i32_w]; rw [c6b0]) | skip)
    have H' := M_ H
    clear H
    go_wp2_with (first | ((with_reducible refine gc_ 10 ?_); refine gM_ (some 9) Tryz.func10 #[.slice A0 l0.length c0] ?_; (with_reducible refine (impl_IsScore.calls k _ _ l0 true _ ?side1 ?side2 A4.out).mono ?_); (case side1 => exact cU_ (Kd.C_below HR0.out HB.out)); (case side2 => exact HC0.out); rintro e w7 ⟨rfl, hb⟩; refine ⟨_, rfl, ?_⟩; replace HB := M_ (bS_ HB hb); clear hb))
    go_meet
   ·case rel => exact ⟨_, (true), eD_, H', ⟨by first | omega | exact Nat.le_refl _⟩, ⟨bU_ HB⟩⟩
   ·case rel => exact ⟨_, (decide (a1 > 999)), eD_, H', ⟨by first | omega | exact Nat.le_refl _⟩, ⟨bU_ HB⟩⟩
  ·replace c5 := Bool.eq_false_iff.mpr c5
   subst c5
   rw [if_neg (show ¬ (false = true) by decide)] at H
   have H' := M_ H
   clear H
   go_wp2_with (first | ((with_reducible refine gc_ 10 ?_); refine gM_ (some 9) Tryz.func10 #[.slice A0 l0.length c0] ?_; (with_reducible refine (impl_IsScore.calls k _ _ l0 false _ ?side1 ?side2 A4.out).mono ?_); (case side1 => exact cU_ (Kd.C_below HR0.out HB.out)); (case side2 => exact HC0.out); rintro e w9 ⟨rfl, hb⟩; refine ⟨_, rfl, ?_⟩; replace HB := M_ (bS_ HB hb); clear hb))
   go_meet
   case rel => exact ⟨_, (true), eD_, H', ⟨by first | omega | exact Nat.le_refl _⟩, ⟨bU_ HB⟩⟩
 case rest =>
  clear HC3;obtain ⟨kq, x18_2, rfl, HA, HJ2, HB⟩ := hcut
  cases kq with
  | zero => exact absurd HA.out (by simp [impl_MoveScore.j0])
  | succ kj2 =>
   have H := HA.out;clear HA;simp only [impl_MoveScore.j0] at H
   by_cases c10 : x18_2 = true
   focus
    subst c10
    rw [if_pos rfl] at H
    simp only [Option.some.injEq, Prod.mk.injEq] at H;obtain ⟨rfl, rfl⟩ := H
   rotate_left
   focus
    replace c10 := Bool.eq_false_iff.mpr c10
    subst c10
    rw [if_neg (show ¬ (false = true) by decide)] at H
    replace H := Option.bind_eq_some_iff.mp H;obtain ⟨t492, A110, H⟩ := H;(try dsimp only at H);have A11 := M_ A110;clear A110
    have H' := M_ H
    clear H
   rotate_left
   all_goals
    go_wp2_with (first | ((with_reducible refine gc_ 48 ?_); refine gM_ (some 20) Tryz.func48 #[.slice A0 l0.length c0] ?_; (with_reducible refine (clone_Note.calls _ _ l0 t492 _ ?side1 ?side2 A11.out).mono ?_); (case side1 => exact cU_ (Kd.C_below HR0.out HB.out)); (case side2 => exact HC0.out); rintro e w12 ⟨v493, rfl, ho0, hb⟩; refine ⟨_, rfl, ?_⟩; have HO494 := M_ (Kd.R_lower ho0 (bZ_ HB)); replace HB := M_ (bS_ HB hb); clear hb ho0; obtain ⟨Ao13, co13, eo13⟩ := Kd.R_slice HO494.out; subst eo13))
   ·go_ret2
    exact ⟨_, eR_, by first | exact Kd.R_nil _ _ _ _ _ | exact Kd.N_nil _ _ _ _ _ | exact Kd.V_nil _ _ _ _ _ | exact Kd.Q_nil _ _ _ _ _ | exact Kd.S_nil _ _ _ _ _, bU_ HB⟩
   ·go_loopg [23] kj2 (fun kq v23 w' => ∃ (x6_2 : List (S31)) (x23_2 : Int), v23 = .int .i64 x23_2 ∧ Aside0 (impl_MoveScore.l0 kq a1 x6_2 (t492.length : Int) x23_2 = some (r1, r2)) ∧ Aside0 (kq ≤ kj2) ∧ Aside0 (Kd.R k31 31 w' w.heap.size (fun _ => True) (.slice Ao13 t492.length co13) x6_2) ∧ Aside0 (Below w.heap.size w w'))
    case atStart => exact ⟨(t492), (0), eD_, H', ⟨Nat.le_refl _⟩, ⟨rU_ HO494.out⟩, ⟨bU_ HB⟩⟩
    case round =>
     clear H';obtain ⟨x6_2, x23_2, rfl, HA, HK2, HO_6, HB⟩ := hrel;have hl6_2 := (Kd.R_reads' HO_6.out).1
     rw [hl6_2] at HO_6
     (try simp only [hl6_2])
     cases gk with
     | zero => exact absurd HA.out (by simp [impl_MoveScore.l0])
     | succ k2 =>
      have H := HA.out;clear HA;simp only [impl_MoveScore.l0] at H
      by_cases c14 : x23_2 < (t492.length : Int)
      ·rw [if_pos c14] at H
       have c14b0 : decide (x23_2 < (t492.length : Int)) = true := decide_eq_true c14
       clear c14
       by_cases c15 : 0 ≤ x23_2
       ·rw [if_pos c15] at H
        have c15b0 : decide (0 ≤ x23_2) = true := decide_eq_true c15
        clear c15
        by_cases c16 : x23_2 < (x6_2.length : Int)
        ·rw [if_pos c16] at H
         have c16b0 : decide (x23_2 < (x6_2.length : Int)) = true := decide_eq_true c16
         clear c16;obtain ⟨y496, hy496⟩ : ∃ y_ : List (S31), y_ = (x6_2.set (x23_2 : Int).toNat (⟨(rd_T31 x6_2 x23_2).f0, wrap64 (((rd_T31 x6_2 x23_2).f1) + a1), (rd_T31 x6_2 x23_2).f2⟩ : S31)) := ⟨_, rfl⟩
         replace H : (impl_MoveScore.l0 k2 a1 y496 (t492.length : Int) (wrap64 (x23_2 + 1))) = some (r1, r2) := by first | (rw [hy496]; with_reducible exact H) | (have H2_ := (Option.bind_some _ _).symm.trans H; rw [hy496]; with_reducible exact H2_) | (have H2_ := (Option.bind_some _ _).symm.trans H; with_reducible exact H2_) | with_reducible exact H | (rw [hy496]; exact H) | exact H
         have Ny496 := M_ hy496;clear hy496
         have H' := M_ H
         clear H
         have p495 : 0 ≤ (x23_2 : Int) := dT_
         have q495 : x23_2 < (x6_2.length : Int) := dT_
         obtain ⟨ad495, e495, hx495_0, hx495_1, hx495_2⟩ := at_T31 (Kd.R_reads' HO_6.out).2.2 x23_2 p495 q495;cases e495;replace p495 := eq_true p495;replace q495 := eq_true q495
         have p17 : 0 ≤ (x23_2 : Int) := dT_
         have q17 : (x23_2 : Int) < ((x6_2.length : Int) : Int) := dT_
         obtain ⟨go17, co17, eo17, gb17, gl17, cl17, HG17⟩ := Kd.R_form HO_6.out (by omega)
         (first | cases eo17 | (injection eo17 with ea_ en_ ec_; (first | subst ea_ | (injection ea_ with ea_; subst ea_)); subst ec_; clear en_))
         have GB17 := M_ gb17;have GG17 := M_ HG17;clear gb17 gl17 HG17
         (first | simp only [add_plain] at hx495_0 | skip)
         (first | simp only [add_plain] at hx495_1 | skip)
         (first | simp only [add_plain] at hx495_2 | skip)
         obtain ⟨ce17, hcl17, hM17, hcc17, hfr17⟩ := Kd.R_elem HO_6.out z31 (x23_2 : Int) p17 q17;obtain rfl := k31_openM hM17
         have hx17_0 : wr.cell? ⟨go17, (x23_2 : Int).toNat * 3, none⟩ = some (.int .i64 ((rd_T31 x6_2 x23_2).f0)) := hcc17 0 _ rfl
         have hx17_1 : wr.cell? ⟨go17, (x23_2 : Int).toNat * 3 + 1, none⟩ = some (.int .i64 ((rd_T31 x6_2 x23_2).f1)) := hcc17 1 _ rfl
         have hx17_2 : wr.cell? ⟨go17, (x23_2 : Int).toNat * 3 + 2, none⟩ = some (.int .i64 ((rd_T31 x6_2 x23_2).f2)) := hcc17 2 _ rfl
         have hf17_0 : wr.frozen? ⟨go17, (x23_2 : Int).toNat * 3, none⟩ = false := hfr17 0
         have hf17_1 : wr.frozen? ⟨go17, (x23_2 : Int).toNat * 3 + 1, none⟩ = false := hfr17 1
         have hf17_2 : wr.frozen? ⟨go17, (x23_2 : Int).toNat * 3 + 2, none⟩ = false := hfr17 2
         clear hcl17 hcc17 hfr17 hM17;replace p17 := eq_true p17;replace q17 := eq_true q17;have HX18 := M_ (show Kd.R k31 31 wr w.heap.size (fun _ => True) (.slice (some ⟨go17, 0, none⟩) x6_2.length co13) x6_2 from (rU_ HO_6.out));obtain ⟨ce18, hcl18, hM18, hcc18, hfr18⟩ := Kd.R_elem HX18.out z31 (x23_2 : Int) (dT_) (by have h_ : (x23_2 : Int) < ((x6_2.length : Int) : Int) := dT_; first | exact h_ | (have e_ := (Kd.R_reads' HO_6.out).1; omega) | simpa using h_);obtain rfl := k31_openM hM18;have HP18 := Kd.R_seg HX18.out (x23_2 : Int) (dT_) (by have h_ : (x23_2 : Int) < ((x6_2.length : Int) : Int) := dT_; first | exact h_ | (have e_ := (Kd.R_reads' HO_6.out).1; omega) | simpa using h_) (seg := [.int .i64 (wrap64 (((rd_T31 x6_2 x23_2).f1) + a1))]) (j := 1) hcl18 hcc18 (show 2 ≤ 3 from by decide) (x' := (⟨(rd_T31 x6_2 x23_2).f0, wrap64 (((rd_T31 x6_2 x23_2).f1) + a1), (rd_T31 x6_2 x23_2).f2⟩ : S31)) (k31_mkM _ _ _ (⟨(rd_T31 x6_2 x23_2).f0, wrap64 (((rd_T31 x6_2 x23_2).f1) + a1), (rd_T31 x6_2 x23_2).f2⟩ : S31) ) (fun _ hk => hk);have hx18_1 := hcc18 1 _ rfl
         (try simp only [show (k31).sz = 3 from rfl, Nat.mul_one, Nat.add_zero] at hx18_1)
         have hf18_1 := hfr18 1
         (try simp only [show (k31).sz = 3 from rfl, Nat.mul_one, Nat.add_zero] at hf18_1)
         clear hcl18 hcc18 hfr18 hM18
         go_wp2_with (first | ((with_reducible refine gate_store (t := 3) (p := 34) rfl ?_); refine store_event (t := 3) (p := 34) (v := ?vo_w19) (w1 := (wr.setCell ⟨go17, (x23_2 : Int).toNat * 3 + 1, none⟩ (.int .i64 (wrap64 (((rd_T31 x6_2 x23_2).f1) + a1))))) ?hg ?ho ?hn ?hr ?_; (case ho => rfl); (case hg => rfl); (case hn => rfl); (case hr => first | (go_simp; done) | (go_simp; rfl)); intro w19 hw; have hg : wr.grownBy w19 (some go17) := (by rw [hw]; exact HP18.2); have hp_ : Kd.R k31 31 w19 w.heap.size (fun _ => True) (.slice (some ⟨go17, 0, none⟩) x6_2.length co13) y496 := (by rw [hw, Ny496.out]; exact HP18.1); clear HP18; replace HO_6 := M_ (hp_); replace HB := M_ ((by rw [hw]; exact bs_ (HB.out) GB17.out : Below w.heap.size w w19)); clear hg hw hp_))
         (try simp only [← hl6_2])
         go_roundg k2
         case measure => have := HJ2.out; have := HK2.out; omega
         case rel => exact ⟨(y496), (wrap64 (x23_2 + 1)), eD_, H', ⟨by have := HJ2.out; have := HK2.out; omega⟩, ⟨by (try simp only [hl6_2]); (with_reducible repeat (first | apply ra_ | apply rn_ | apply rd_)); exact HO_6.out⟩, ⟨bU_ HB⟩⟩
        ·rw [if_neg c16] at H
         exact absurd H (by simp)
       ·rw [if_neg c15] at H
        exact absurd H (by simp)
      ·rw [if_neg c14] at H
       have c14b0 : decide (x23_2 < (t492.length : Int)) = false := decide_eq_false c14
       (try simp only [hl6_2] at c14b0)
       clear c14;replace H := Option.bind_eq_some_iff.mp H;obtain ⟨⟨t497, t500⟩, A200, H⟩ := H;replace H : (some (t497, t500)) = some (r1, r2) := H;have A20 := M_ A200;clear A200;simp only [Option.some.injEq, Prod.mk.injEq] at H;obtain ⟨rfl, rfl⟩ := H
       go_wp2_with (first | ((with_reducible refine gc_ 43 ?_); refine gM_ (some 37) Tryz.func43 #[.slice Ao13 x6_2.length co13] ?_; (with_reducible refine (impl_scoreOf.calls k2 (fun k_ => some k_ = (.slice Ao13 x6_2.length co13 : Value).ownBlock) (.slice Ao13 x6_2.length co13) x6_2 t497 t500 w _ ?side1 ?side2 A20.out).mono ?_); (case side1 => exact bU_ HB); (case side2 => exact Kd.R_tight rfl HO_6.out); rintro e w21 ⟨v498, rfl, ho0, hb, hkp⟩; refine ⟨_, rfl, ?_⟩; have HO499 := M_ (rm_ (ok' := fun k_ => True) ho0 (fun k_ hk_ => trivial)); replace HB := M_ (hb); clear HO_6; (try clear hb); (try clear hkp); (try clear ho0)))
       go_ret2
       exact ⟨_, eR_, rU_ HO499.out, bU_ HB⟩
end Go.Proofs.YtfpfjnmjekjnhaaGreatDoor.PFnScores
