-- by wip/xprint.py, over the kit's printer
import Derived.Test.YtfpfjnmjekjnhaaGreatDoorPFnNotesx0
import Derived.Test.YtfpfjnmjekjnhaaGreatDoorPFnNotesx2
import Derived.Test.YtfpfjnmjekjnhaaGreatDoorPFnNotesx3
import Derived.Test.YtfpfjnmjekjnhaaGreatDoorPFnNotesx10
namespace Go.Proofs.YtfpfjnmjekjnhaaGreatDoor.PFnNotes
open Go.RowKit Go.Proofs.YtfpfjnmjekjnhaaGreatDoorW.PrintWords Go.Proofs.YtfpfjnmjekjnhaaGreatDoorW.PrintLast Go.Proofs.YtfpfjnmjekjnhaaGreatDoorW.PrintMore
attribute [local go_sem] max2_int min2_int max_two min_two max_three min_three max_four min_four   -- for this text's walks alone
set_option linter.unusedVariables false
set_option linter.unusedSimpArgs false

def spec_ntAt.l0 : Nat → Int → List Int → List (S31) → Int → Int → Option (List Int)
 | 0, _, _, _, _, _ => none
 | k + 1, x1, x5, x8, x9, x10 => if x10 < x9 then (if 0 ≤ x10 then (if x10 < (x8.length : Int) then ((spec_l1In.f x1 ((rd_T31 x8 x10).f1) (wrap64 ((wrap64 (((rd_T31 x8 x10).f1) + ((rd_T31 x8 x10).f2))) - 1))).bind fun t449 => (if t449 = true then ((spec_l1Put.f k x5 ((rd_T31 x8 x10).f0)).bind fun t450 => (spec_ntAt.l0 k x1 t450 x8 x9 (wrap64 (x10 + 1)))) else (spec_ntAt.l0 k x1 x5 x8 x9 (wrap64 (x10 + 1))))) else (none)) else (none)) else (some x5)
def spec_ntAt.f (k : Nat) (l0 : List (S31)) (a1 : Int) : Option (List Int) := spec_ntAt.l0 k a1 ([] : List Int) l0 (l0.length : Int) 0
theorem spec_ntAt.mono_l : ∀ k, (∀ y0 y1 y2 y3 y4, LeO (spec_ntAt.l0 k y0 y1 y2 y3 y4) (spec_ntAt.l0 (k + 1) y0 y1 y2 y3 y4))
 | 0 => fun _ _ _ _ _ r h => by simp [spec_ntAt.l0] at h
 | k + 1 => by
  have ih0 := spec_ntAt.mono_l k
  ·intro y0 y1 y2 y3 y4
   unfold spec_ntAt.l0
   have m0_ := @spec_l1Put.mono;exact mo_
theorem spec_ntAt.mono : ∀ a0 a1 k, LeO (spec_ntAt.f k a0 a1) (spec_ntAt.f (k + 1) a0 a1) := by
 intro a0 a1 k;have ih0 := spec_ntAt.mono_l k
 unfold spec_ntAt.f
 have m0_ := @spec_l1Put.mono;exact mo_
set_option maxHeartbeats 8000000 in
set_option maxRecDepth 100000 in
theorem spec_ntAt.calls (k : Nat) (A0 : Option Addr) (c0 : Nat) (l0 : List (S31)) (a1 : Int) (r : List Int) (w : World) (hr0 : Kd.C k31 w A0 l0.length l0) (hc0 : l0.length ≤ c0) (h : spec_ntAt.f k l0 a1 = some r) :
  Calls Tryz.prog 53 #[.slice A0 l0.length c0, .int .i64 a1] w fun e w' => ∃ v0_ : Value, e = .returned (v0_) ∧ Kd.R (Kd.int .i64) 3 w' w.heap.size (fun _ => True) v0_ r ∧ Below w.heap.size w w' := by
 have hu31 := Tryz.underlying31;have HR0 := M_ hr0;have HC0 := M_ hc0;clear hr0 hc0;have HB := M_ (Below.refl w.heap.size w)
 have H : (spec_ntAt.l0 k a1 ([] : List Int) l0 (l0.length : Int) 0) = some r := h
 clear h
 have H' := M_ H
 clear H
 go_enter Tryz.func53, Tryz.ntmps53
 go_wp2
 go_loopg [5, 10] k (fun kq v5 v10 w' => ∃ (x5_1 : List Int) (x10_1 : Int), v10 = .int .i64 x10_1 ∧ Aside0 (spec_ntAt.l0 kq a1 x5_1 l0 (l0.length : Int) x10_1 = some r) ∧ Aside0 (kq ≤ k) ∧ Aside0 (Kd.R (Kd.int .i64) 3 w' w.heap.size (fun _ => True) v5 x5_1) ∧ Aside0 (Below w.heap.size w w'))
 case atStart => exact ⟨(([] : List Int)), (0), eD_, H', ⟨Nat.le_refl _⟩, ⟨by first | exact Kd.R_nil _ _ _ _ _ | exact Kd.N_nil _ _ _ _ _ | exact Kd.V_nil _ _ _ _ _ | exact Kd.Q_nil _ _ _ _ _ | exact Kd.S_nil _ _ _ _ _⟩, ⟨bU_ HB⟩⟩
 case round =>
  clear H';obtain ⟨x5_1, x10_1, rfl, HA, HK1, HO_5, HB⟩ := hrel
  cases gk with
  | zero => exact absurd HA.out (by simp [spec_ntAt.l0])
  | succ k1 =>
   have H := HA.out;clear HA;simp only [spec_ntAt.l0] at H
   by_cases c3 : x10_1 < (l0.length : Int)
   ·rw [if_pos c3] at H
    have c3b0 : decide (x10_1 < (l0.length : Int)) = true := decide_eq_true c3
    clear c3
    by_cases c4 : 0 ≤ x10_1
    ·rw [if_pos c4] at H
     have c4b0 : decide (0 ≤ x10_1) = true := decide_eq_true c4
     clear c4
     by_cases c5 : x10_1 < (l0.length : Int)
     ·rw [if_pos c5] at H
      have c5b0 : decide (x10_1 < (l0.length : Int)) = true := decide_eq_true c5
      clear c5;replace H := Option.bind_eq_some_iff.mp H;obtain ⟨t449, A60, H⟩ := H;(try dsimp only at H);have A6 := M_ A60;clear A60
      by_cases c7 : t449 = true
      focus
       subst c7
       rw [if_pos rfl] at H
       replace H := Option.bind_eq_some_iff.mp H;obtain ⟨t450, A80, H⟩ := H;(try dsimp only at H);have A8 := M_ A80;clear A80
      rotate_left
      focus
       replace c7 := Bool.eq_false_iff.mpr c7
       subst c7
       rw [if_neg (show ¬ (false = true) by decide)] at H
      rotate_left
      all_goals
       have H' := M_ H
       clear H
       have p447 : 0 ≤ (x10_1 : Int) := dT_
       have q447 : x10_1 < (l0.length : Int) := dT_
       obtain ⟨ad447, e447, hx447_0, hx447_1, hx447_2⟩ := at_T31 HR0.out x10_1 p447 q447;cases e447;replace hx447_0 := (HB.out.cell (World.block_lt_of_cell? w _ hx447_0)).trans hx447_0;replace hx447_1 := (HB.out.cell (World.block_lt_of_cell? w _ hx447_1)).trans hx447_1;replace hx447_2 := (HB.out.cell (World.block_lt_of_cell? w _ hx447_2)).trans hx447_2;replace p447 := eq_true p447;replace q447 := eq_true q447
      ·go_wp2_with (first | ((with_reducible refine gate_dst (N := 7) rfl ?_); refine bx_ (N := 7) (cs := #[.int .i64 0, .int .i64 0, .int .i64 0]) (t := 31) ?_; intro gb448 hg w9 hbox hb; replace HO_5 := M_ (rB_ HO_5 hb); have BK448 := M_ (hbox); have GW448 := M_ (gw_ HB hg); have GE448 := M_ (gw_ HB hg); replace HB := M_ (bS_ HB hb); clear hb hbox hg; obtain ⟨hcz10_0, hcz10_1, hcz10_2, hfz10_0, hfz10_1, hfz10_2⟩ := bq3_ BK448) | ((with_reducible refine gate_store (t := 31) (p := 7) rfl ?_); refine store_event (t := 31) (p := 7) (v := ?vo_w11) (w1 := (((w9.setCell ⟨gb448, 0, none⟩ (.int .i64 ((rd_T31 l0 x10_1).f0))).setCell ⟨gb448, 1, none⟩ (.int .i64 ((rd_T31 l0 x10_1).f1))).setCell ⟨gb448, 2, none⟩ (.int .i64 ((rd_T31 l0 x10_1).f2)))) ?hg ?ho ?hn ?hr ?_; (case ho => rfl); (case hg => rfl); (case hn => rfl); (case hr => first | (go_simp; done) | (go_simp; rfl)); intro w11 hw; have n0_ : Aside0 (Kd.R (Kd.int .i64) 3 w11 w.heap.size (fun _ => True) u5 x5_1) := ⟨(by rw [hw]; exact (rU_ (rm_ (Kd.R_far (p := ⟨gb448, 2, none⟩) (Kd.R_far (p := ⟨gb448, 1, none⟩) (Kd.R_far (p := ⟨gb448, 0, none⟩) (rt_ HO_5.out BK448.out (by decide)) (fun _ hk => hk.2) (.int .i64 ((rd_T31 l0 x10_1).f0))) (fun _ hk => hk.2) (.int .i64 ((rd_T31 l0 x10_1).f1))) (fun _ hk => hk.2) (.int .i64 ((rd_T31 l0 x10_1).f2))) (fun _ hk => trivial))))⟩; have n1_ : Aside0 (w11.heap[gb448]? = some (.cells #[.int .i64 ((rd_T31 l0 x10_1).f0), .int .i64 ((rd_T31 l0 x10_1).f1), .int .i64 ((rd_T31 l0 x10_1).f2)] 31 (0, 0))) := ⟨(by rw [hw]; exact (by (with_reducible repeat (first | refine kn_ ?_ _ | refine kd_ ?_ | refine ka_ ?_ _)); refine blk_put (cs := #[.int .i64 ((rd_T31 l0 x10_1).f0), .int .i64 ((rd_T31 l0 x10_1).f1), .int .i64 0]) ?_ 2 _ rfl; (with_reducible repeat (first | refine kn_ ?_ _ | refine kd_ ?_ | refine ka_ ?_ _)); refine blk_put (cs := #[.int .i64 ((rd_T31 l0 x10_1).f0), .int .i64 0, .int .i64 0]) ?_ 1 _ rfl; (with_reducible repeat (first | refine kn_ ?_ _ | refine kd_ ?_ | refine ka_ ?_ _)); refine blk_put (cs := #[.int .i64 0, .int .i64 0, .int .i64 0]) ?_ 0 _ rfl; (with_reducible repeat (first | refine kn_ ?_ _ | refine kd_ ?_ | refine ka_ ?_ _)); exact BK448.out))⟩; have n2_ : Aside0 (Below w.heap.size w w11) := ⟨(by rw [hw]; exact (bU_ HB))⟩; clear hw; clear HO_5; clear BK448; clear HB; have HO_5 := n0_; have BK448 := n1_; have HB := n2_; clear n0_ n1_ n2_; obtain ⟨hcz12_0, hcz12_1, hcz12_2, hfz12_0, hfz12_1, hfz12_2⟩ := bq3_ BK448) | ((with_reducible refine gc_ 52 ?_); refine gM_ (some 23) Tryz.func52 #[.int .i64 a1, .int .i64 ((rd_T31 l0 x10_1).f1), .int .i64 (wrap64 ((wrap64 (((rd_T31 l0 x10_1).f1) + ((rd_T31 l0 x10_1).f2))) - 1))] ?_; (with_reducible refine (spec_l1In.calls a1 ((rd_T31 l0 x10_1).f1) (wrap64 ((wrap64 (((rd_T31 l0 x10_1).f1) + ((rd_T31 l0 x10_1).f2))) - 1)) true _ A6.out).mono ?_); rintro e w' ⟨rfl, ⟨nd, rfl⟩⟩; refine ⟨_, rfl, ?_⟩; obtain ⟨Ao13, co13, eo13⟩ := Kd.R_slice HO_5.out; subst eo13) | ((with_reducible refine gc_ 83 ?_); refine gM_ (some 27) Tryz.func83 #[.slice Ao13 x5_1.length co13, .int .i64 ((rd_T31 l0 x10_1).f0)] ?_; (with_reducible refine (spec_l1Put.calls k1 (fun k_ => some k_ = (.slice Ao13 x5_1.length co13 : Value).ownBlock) (.slice Ao13 x5_1.length co13) x5_1 ((rd_T31 l0 x10_1).f0) t450 w _ ?side1 ?side2 A8.out).mono ?_); (case side1 => exact bU_ HB); (case side2 => exact Kd.R_tight rfl HO_5.out); rintro e w14 ⟨v451, rfl, ho0, hb, hkp⟩; refine ⟨_, rfl, ?_⟩; replace BK448 := M_ (blk_kept (kU_ BK448) hkp (fun hs_ => (fun e_ => (Kd.R_ne HO_5.out BK448.out (by decide)) e_) hs_)); have HO452 := M_ (rm_ (ok' := fun k_ => True) ho0 (fun k_ hk_ => trivial)); replace HB := M_ (hb); clear HO_5; (try clear hb); (try clear hkp); (try clear ho0)))
       go_roundg k1
       case measure => have := HK1.out; omega
       case rel => exact ⟨(t450), (wrap64 (x10_1 + 1)), eD_, H', ⟨by have := HK1.out; omega⟩, ⟨rU_ HO452.out⟩, ⟨bU_ HB⟩⟩
      ·go_wp2_with (first | ((with_reducible refine gate_dst (N := 7) rfl ?_); refine bx_ (N := 7) (cs := #[.int .i64 0, .int .i64 0, .int .i64 0]) (t := 31) ?_; intro gb448 hg w15 hbox hb; replace HO_5 := M_ (rB_ HO_5 hb); have BK448 := M_ (hbox); have GW448 := M_ (gw_ HB hg); have GE448 := M_ (gw_ HB hg); replace HB := M_ (bS_ HB hb); clear hb hbox hg; obtain ⟨hcz16_0, hcz16_1, hcz16_2, hfz16_0, hfz16_1, hfz16_2⟩ := bq3_ BK448) | ((with_reducible refine gc_ 52 ?_); refine gM_ (some 23) Tryz.func52 #[.int .i64 a1, .int .i64 ((rd_T31 l0 x10_1).f1), .int .i64 (wrap64 ((wrap64 (((rd_T31 l0 x10_1).f1) + ((rd_T31 l0 x10_1).f2))) - 1))] ?_; (with_reducible refine (spec_l1In.calls a1 ((rd_T31 l0 x10_1).f1) (wrap64 ((wrap64 (((rd_T31 l0 x10_1).f1) + ((rd_T31 l0 x10_1).f2))) - 1)) false _ A6.out).mono ?_); rintro e w' ⟨rfl, ⟨nd, rfl⟩⟩; refine ⟨_, rfl, ?_⟩))
       go_roundg k1
       case measure => have := HK1.out; omega
       case rel => exact ⟨(x5_1), (wrap64 (x10_1 + 1)), eD_, H', ⟨by have := HK1.out; omega⟩, ⟨by (with_reducible repeat (first | apply ra_ | apply rn_ | apply rd_)); exact rm_ (Kd.R_far (p := ⟨gb448, 2, none⟩) (Kd.R_far (p := ⟨gb448, 1, none⟩) (Kd.R_far (p := ⟨gb448, 0, none⟩) (rt_ HO_5.out BK448.out (by decide)) (fun _ hk => hk.2) (.int .i64 ((rd_T31 l0 x10_1).f0))) (fun _ hk => hk.2) (.int .i64 ((rd_T31 l0 x10_1).f1))) (fun _ hk => hk.2) (.int .i64 ((rd_T31 l0 x10_1).f2))) (fun _ hk => trivial)⟩, ⟨bU_ HB⟩⟩
     ·rw [if_neg c5] at H
      exact absurd H (by simp)
    ·rw [if_neg c4] at H
     exact absurd H (by simp)
   ·rw [if_neg c3] at H
    have c3b0 : decide (x10_1 < (l0.length : Int)) = false := decide_eq_false c3
    clear c3;obtain rfl := Option.some.inj H
    go_wp2
    go_ret
    exact ⟨_, eR_, rU_ HO_5.out, bU_ HB⟩
def spec_SoundingAt.f (k : Nat) (l0 : List (S31)) (a1 : Int) : Option (List Int × Bool) := (spec_ntGood.f k l0).bind fun t453 => (if t453 = true then ((spec_l1In.f a1 0 1099).bind fun t454 => (if t454 = true then ((spec_ntAt.f k l0 a1).bind fun t455 => (some (t455, true))) else (some (([] : List Int), false)))) else (some (([] : List Int), false)))
theorem spec_SoundingAt.mono : ∀ a0 a1 k, LeO (spec_SoundingAt.f k a0 a1) (spec_SoundingAt.f (k + 1) a0 a1) := by
 intro a0 a1 k
 unfold spec_SoundingAt.f
 have m0_ := @spec_ntAt.mono;have m1_ := @spec_ntGood.mono;exact mo_
set_option maxHeartbeats 8000000 in
set_option maxRecDepth 100000 in
theorem spec_SoundingAt.calls (k : Nat) (A0 : Option Addr) (c0 : Nat) (l0 : List (S31)) (a1 : Int) (r1 : List Int) (r2 : Bool) (w : World) (hr0 : Kd.C k31 w A0 l0.length l0) (hc0 : l0.length ≤ c0) (h : spec_SoundingAt.f k l0 a1 = some (r1, r2)) :
  Calls Tryz.prog 17 #[.slice A0 l0.length c0, .int .i64 a1] w fun e w' => ∃ v0_ : Value, e = .returned (.tuple #[v0_, .bool r2]) ∧ Kd.R (Kd.int .i64) 3 w' w.heap.size (fun _ => True) v0_ r1 ∧ Below w.heap.size w w' := by
 have HR0 := M_ hr0;have HC0 := M_ hc0;clear hr0 hc0;have HB := M_ (Below.refl w.heap.size w)
 have H : ((spec_ntGood.f k l0).bind fun t453 => (if t453 = true then ((spec_l1In.f a1 0 1099).bind fun t454 => (if t454 = true then ((spec_ntAt.f k l0 a1).bind fun t455 => (some (t455, true))) else (some (([] : List Int), false)))) else (some (([] : List Int), false)))) = some (r1, r2) := h
 clear h;replace H := Option.bind_eq_some_iff.mp H;obtain ⟨t453, A30, H⟩ := H;(try dsimp only at H);have A3 := M_ A30;clear A30
 by_cases c4 : t453 = true
 ·subst c4
  rw [if_pos rfl] at H
  replace H := Option.bind_eq_some_iff.mp H;obtain ⟨t454, A50, H⟩ := H;(try dsimp only at H);have A5 := M_ A50;clear A50
  by_cases c6 : t454 = true
  focus
   subst c6
   rw [if_pos rfl] at H
   replace H := Option.bind_eq_some_iff.mp H;obtain ⟨t455, A70, H⟩ := H;replace H : (some (t455, true)) = some (r1, r2) := H;have A7 := M_ A70;clear A70;simp only [Option.some.injEq, Prod.mk.injEq] at H;obtain ⟨rfl, rfl⟩ := H
  rotate_left
  focus
   replace c6 := Bool.eq_false_iff.mpr c6
   subst c6
   rw [if_neg (show ¬ (false = true) by decide)] at H
   simp only [Option.some.injEq, Prod.mk.injEq] at H;obtain ⟨rfl, rfl⟩ := H
  rotate_left
  all_goals
   go_enter Tryz.func17, Tryz.ntmps17
   go_wp2_with (first | ((with_reducible refine gc_ 49 ?_); refine gM_ (some 7) Tryz.func49 #[.slice A0 l0.length c0] ?_; (with_reducible refine (spec_ntGood.calls k _ _ l0 true _ ?side1 ?side2 A3.out).mono ?_); (case side1 => exact cU_ HR0.out); (case side2 => exact HC0.out); rintro e w8 ⟨rfl, hb⟩; refine ⟨_, rfl, ?_⟩; replace HB := M_ (bS_ HB hb); clear hb) | (go_at_call 52; (with_reducible refine (spec_l1In.calls a1 0 1099 _ _ A5.out).mono ?_); rintro e w' ⟨rfl, ⟨nd, rfl⟩⟩) | ((with_reducible refine gc_ 53 ?_); refine gM_ (some 16) Tryz.func53 #[.slice A0 l0.length c0, .int .i64 a1] ?_; (with_reducible refine (spec_ntAt.calls k _ _ l0 a1 t455 _ ?side1 ?side2 A7.out).mono ?_); (case side1 => exact cU_ (Kd.C_below HR0.out (bU_ HB))); (case side2 => exact HC0.out); rintro e w9 ⟨v456, rfl, ho0, hb⟩; refine ⟨_, rfl, ?_⟩; have HO457 := M_ (Kd.R_lower ho0 (bZ_ HB)); replace HB := M_ (bS_ HB hb); clear hb ho0))
   go_ret2
  ·exact ⟨_, eR_, rU_ HO457.out, bU_ HB⟩
  ·exact ⟨_, eR_, by first | exact Kd.R_nil _ _ _ _ _ | exact Kd.N_nil _ _ _ _ _ | exact Kd.V_nil _ _ _ _ _ | exact Kd.Q_nil _ _ _ _ _ | exact Kd.S_nil _ _ _ _ _, bU_ HB⟩
 ·replace c4 := Bool.eq_false_iff.mpr c4
  subst c4
  rw [if_neg (show ¬ (false = true) by decide)] at H
  simp only [Option.some.injEq, Prod.mk.injEq] at H;obtain ⟨rfl, rfl⟩ := H
  go_enter Tryz.func17, Tryz.ntmps17
  go_wp2_with (first | ((with_reducible refine gc_ 49 ?_); refine gM_ (some 7) Tryz.func49 #[.slice A0 l0.length c0] ?_; (with_reducible refine (spec_ntGood.calls k _ _ l0 false _ ?side1 ?side2 A3.out).mono ?_); (case side1 => exact cU_ HR0.out); (case side2 => exact HC0.out); rintro e w11 ⟨rfl, hb⟩; refine ⟨_, rfl, ?_⟩; replace HB := M_ (bS_ HB hb); clear hb))
  go_ret2
  exact ⟨_, eR_, by first | exact Kd.R_nil _ _ _ _ _ | exact Kd.N_nil _ _ _ _ _ | exact Kd.V_nil _ _ _ _ _ | exact Kd.Q_nil _ _ _ _ _ | exact Kd.S_nil _ _ _ _ _, bU_ HB⟩
def spec_DrawPitchName.f (l0 : List Int) : Option (Int) := (newCur.f l0).bind fun bt458 => ((spec_l1Cur_pick.f bt458.1 bt458.2.1 bt458.2.2 73).bind fun bt462 => ((spec_l1Cur_among.f bt458.1 bt462.2.1 bt462.2.2 (([23, 97] : List Int))).bind fun bt468 => ((spec_l1Cur_among.f bt458.1 bt468.2.1 bt468.2.2 (([24, 60, 61, 70, wrap64 (24 + bt462.1), 96, bt468.1] : List Int))).bind fun bt474 => (some bt474.1))))
set_option maxHeartbeats 8000000 in
set_option maxRecDepth 100000 in
theorem spec_DrawPitchName.calls (A0 : Option Addr) (c0 : Nat) (l0 : List Int) (r : Int) (w : World) (hr0 : Kd.C (Kd.int .u8) w A0 l0.length l0) (hc0 : l0.length ≤ c0) (h : spec_DrawPitchName.f l0 = some r) :
  Calls Tryz.prog 18 #[.slice A0 l0.length c0] w fun e w' => e = .returned (.int .i64 r) ∧ Below w.heap.size w w' := by
 have HR0 := M_ hr0;have HC0 := M_ hc0;clear hr0 hc0;have HB := M_ (Below.refl w.heap.size w)
 have H : ((newCur.f l0).bind fun bt458 => ((spec_l1Cur_pick.f bt458.1 bt458.2.1 bt458.2.2 73).bind fun bt462 => ((spec_l1Cur_among.f bt458.1 bt462.2.1 bt462.2.2 (([23, 97] : List Int))).bind fun bt468 => ((spec_l1Cur_among.f bt458.1 bt468.2.1 bt468.2.2 (([24, 60, 61, 70, wrap64 (24 + bt462.1), 96, bt468.1] : List Int))).bind fun bt474 => (some bt474.1))))) = some r := h
 clear h;replace H := Option.bind_eq_some_iff.mp H;obtain ⟨⟨t458, t459, t460⟩, A20, H⟩ := H;(try dsimp only at H);have A2 := M_ A20;clear A20;replace H := Option.bind_eq_some_iff.mp H;obtain ⟨⟨t462, t463, t464⟩, A30, H⟩ := H;(try dsimp only at H);have A3 := M_ A30;clear A30;obtain ⟨y465, hy465⟩ : ∃ y_ : List Int, y_ = (([23, 97] : List Int)) := ⟨_, rfl⟩
 replace H : ((spec_l1Cur_among.f t458 t463 t464 y465).bind fun bt468 => ((spec_l1Cur_among.f t458 bt468.2.1 bt468.2.2 (([24, 60, 61, 70, wrap64 (24 + t462), 96, bt468.1] : List Int))).bind fun bt474 => (some bt474.1))) = some r := by first | (rw [hy465]; with_reducible exact H) | (have H2_ := (Option.bind_some _ _).symm.trans H; rw [hy465]; with_reducible exact H2_) | (have H2_ := (Option.bind_some _ _).symm.trans H; with_reducible exact H2_) | with_reducible exact H | (rw [hy465]; exact H) | exact H
 have Ny465 := M_ hy465;clear hy465;replace H := Option.bind_eq_some_iff.mp H;obtain ⟨⟨t468, t469, t470⟩, A40, H⟩ := H;(try dsimp only at H);have A4 := M_ A40;clear A40;obtain ⟨y471, hy471⟩ : ∃ y_ : List Int, y_ = (([24, 60, 61, 70, wrap64 (24 + t462), 96, t468] : List Int)) := ⟨_, rfl⟩
 replace H : ((spec_l1Cur_among.f t458 t469 t470 y471).bind fun bt474 => (some bt474.1)) = some r := by first | (rw [hy471]; with_reducible exact H) | (have H2_ := (Option.bind_some _ _).symm.trans H; rw [hy471]; with_reducible exact H2_) | (have H2_ := (Option.bind_some _ _).symm.trans H; with_reducible exact H2_) | with_reducible exact H | (rw [hy471]; exact H) | exact H
 have Ny471 := M_ hy471;clear hy471;replace H := Option.bind_eq_some_iff.mp H;obtain ⟨⟨t474, t475, t476⟩, A50, H⟩ := H;replace H : (some t474) = some r := H;have A5 := M_ A50;clear A50;obtain rfl := Option.some.inj H
 go_enter Tryz.func18, Tryz.ntmps18
 go_wp2_with (first | ((with_reducible refine gate_dst (N := 6) rfl ?_); refine bx_ (N := 6) (cs := #[.slice A0 l0.length c0, .int .i64 0, .int .u64 0]) (t := 58) ?_; intro g461 hg w6 hbox hb2; have hb := bS_ HB hb2; have hi := newCur_is A2.out (by exact HR0.out) hbox (by rw [hg]; exact (bZ_ HB)); clear hg hbox; replace HB := M_ (hb); have HI461 := M_ (hi); clear hb) | ((with_reducible refine gc_ 42 ?_); refine gM_ (some 9) Tryz.func42 #[.pointer (some ⟨g461, 0, none⟩), .int .i64 73] ?_; (with_reducible refine (spec_l1Cur_pick.calls g461 t458 t459 t460 73 t462 t463 t464 w _ ?side1 ?side2 A3.out).mono ?_); (case side1 => exact iU_ HI461); (case side2 => exact bU_ HB); rintro e w7 ⟨rfl, hi, hb, hk⟩; refine ⟨_, rfl, ?_⟩; replace HB := M_ (hb); replace HI461 := M_ (hi); clear hb hk hi) | ((with_reducible refine gate_dst (N := 12) rfl ?_); refine lt_ (Kd.int .i64) 3 (N := 12) (([23, 97] : List Int)) [.int .i64 23, .int .i64 97] ri_ ?_; intro v466 w8 ho9 hb hg_ hnew_; clear hg_ hnew_; replace ho9 := rN_ Ny465 ho9; have HO467 := M_ (Kd.R_lower ho9 (bZ_ HB)); replace HI461 := M_ (IsS58.below (iU_ HI461) hb); replace HB := M_ (bS_ HB hb); clear hb ho9; obtain ⟨Ao10, co10, eo10⟩ := Kd.R_slice HO467.out; subst eo10) | ((with_reducible refine gc_ 50 ?_); refine gM_ (some 13) Tryz.func50 #[.pointer (some ⟨g461, 0, none⟩), .slice Ao10 y465.length co10] ?_; (with_reducible refine (spec_l1Cur_among.calls g461 t458 t463 t464 _ _ y465 t468 t469 t470 w _ ?side1 ?side2 ?side3 ?side4 ?side5 A4.out).mono ?_); (case side1 => exact iU_ HI461); (case side2 => exact bU_ HB); (case side3 => exact cU_ (Kd.R_reads' HO467.out).2.2); (case side4 => exact (Kd.R_reads' HO467.out).2.1); (case side5 => exact far_slice (IsS58.own_ne HI461.out HO467.out (by decide))); rintro e w11 ⟨rfl, hi, hb, hk⟩; refine ⟨_, rfl, ?_⟩; replace HO467 := M_ (ik_ HI461 HO467 hk); replace HB := M_ (hb); replace HI461 := M_ (hi); clear hb hk hi) | ((with_reducible refine gate_dst (N := 14) rfl ?_); refine lt_ (Kd.int .i64) 3 (N := 14) (([24, 60, 61, 70, wrap64 (24 + t462), 96, t468] : List Int)) [.int .i64 24, .int .i64 60, .int .i64 61, .int .i64 70, .int .i64 (wrap64 (24 + t462)), .int .i64 96, .int .i64 t468] ri_ ?_; intro v472 w12 ho13 hb hg_ hnew_; clear hg_ hnew_; replace ho13 := rN_ Ny471 ho13; have HO473 := M_ (Kd.R_lower (Kd.R_new' ho13 (rl_ HO467)) (bZ_ HB)); replace HO467 := M_ (re_ HO467 ho13 hb); replace HI461 := M_ (IsS58.below (iU_ HI461) hb); replace HB := M_ (bS_ HB hb); clear hb ho13; obtain ⟨Ao14, co14, eo14⟩ := Kd.R_slice HO473.out; subst eo14) | ((with_reducible refine gc_ 50 ?_); refine gM_ (some 15) Tryz.func50 #[.pointer (some ⟨g461, 0, none⟩), .slice Ao14 y471.length co14] ?_; (with_reducible refine (spec_l1Cur_among.calls g461 t458 t469 t470 _ _ y471 t474 t475 t476 w _ ?side1 ?side2 ?side3 ?side4 ?side5 A5.out).mono ?_); (case side1 => exact iU_ HI461); (case side2 => exact bU_ HB); (case side3 => exact cU_ (Kd.R_reads' HO473.out).2.2); (case side4 => exact (Kd.R_reads' HO473.out).2.1); (case side5 => exact far_slice (IsS58.own_ne HI461.out HO473.out (by decide))); rintro e w15 ⟨rfl, hi, hb, hk⟩; refine ⟨_, rfl, ?_⟩; replace HO467 := M_ (ik_ HI461 HO467 hk); replace HO473 := M_ (ik_ HI461 HO473 hk); replace HB := M_ (hb); replace HI461 := M_ (hi); clear hb hk hi))
 go_ret
 exact ⟨eR_, bU_ HB⟩
def impl_isPitch.f (a0 : Int) : Option (Bool) := if a0 ≥ 24 then (some (decide (a0 ≤ 96))) else (some false)
set_option maxHeartbeats 8000000 in
set_option maxRecDepth 100000 in
theorem impl_isPitch.calls (a0 : Int) (r : Bool) (w : World) (h : impl_isPitch.f a0 = some r) :
  Calls Tryz.prog 54 #[.int .i64 a0] w fun e w' => e = .returned (.bool r) ∧ Drawn0 w w' := by
 have H : (if a0 ≥ 24 then (some (decide (a0 ≤ 96))) else (some false)) = some r := h
 clear h
 by_cases c2 : a0 ≥ 24
 ·rw [if_pos c2] at H
  have c2b0 : decide (24 ≤ a0) = true := decide_eq_true c2
  clear c2;obtain rfl := Option.some.inj H
  go_enter Tryz.func54, Tryz.ntmps54
  go_wp2
  go_ret
  exact ⟨by first | rfl | (simp; done) | (simp [*]; done), by repeat (first | exact Drawn0.refl _ | apply Drawn0.step)⟩
 ·rw [if_neg c2] at H
  have c2b0 : decide (24 ≤ a0) = false := decide_eq_false c2
  clear c2;obtain rfl := Option.some.inj H
  go_enter Tryz.func54, Tryz.ntmps54
  go_wp2
  go_ret
  exact ⟨by first | rfl | (simp; done) | (simp [*]; done), by repeat (first | exact Drawn0.refl _ | apply Drawn0.step)⟩
-- NOT PRINTED: function 147 (strconv_small)

-- NOT PRINTED: function 159 (strconv_log10Pow2)

-- NOT PRINTED: function 160 (strconv_bool2_int)

-- NOT PRINTED: function 148 (strconv_numDigits)

-- NOT PRINTED: function 149 (strconv_formatBase10)

-- NOT PRINTED: function 161 (strconv_isPowerOfTwo)

-- NOT PRINTED: function 164 (bits_TrailingZeros32)

-- NOT PRINTED: function 165 (bits_TrailingZeros64)

-- NOT PRINTED: function 162 (bits_TrailingZeros)

-- NOT PRINTED: function 150 (strconv_formatBits)

-- NOT PRINTED: function 131 (strconv_FormatInt)

-- NOT PRINTED: function 103 (strconv_Itoa_103)

-- XNAME strconv_Itoa_84 itoa
-- XSHELF
def itoa.f (a0 : Int) : Option (ByteArray) := if 0 ≤ a0 then (if a0 < 100 then some (⟨(Lib.decDigits a0.toNat).toArray⟩ : ByteArray) else none) else none
theorem itoa.calls (a0 : Int) (r : ByteArray) (w : World) (h : itoa.f a0 = some r) :
  Calls Tryz.prog 84 #[.int .i64 a0] w fun e w' => e = .returned (.string r) ∧ Drawn0 w w' := by
 unfold itoa.f at h
 by_cases h0 : 0 ≤ a0
 case neg => rw [if_neg h0] at h; cases h
 by_cases h1 : a0 < 100
 case neg => rw [if_pos h0, if_neg h1] at h; cases h
 rw [if_pos h0, if_pos h1] at h
 obtain rfl := Option.some.inj h;clear h;obtain ⟨i, rfl⟩ := Int.eq_ofNat_of_zero_le h0;refine (Tryz.strconv_Itoa_small i (by omega) w).mono ?_;rintro e w' ⟨rfl, rfl⟩;exact ⟨by rw [Int.toNat_natCast], Drawn0.refl _⟩
def impl_pitchName.f (a0 : Int) : Option (ByteArray) := (some (([(⟨#[99]⟩ : ByteArray), (⟨#[99, 35]⟩ : ByteArray), (⟨#[100]⟩ : ByteArray), (⟨#[100, 35]⟩ : ByteArray), (⟨#[101]⟩ : ByteArray), (⟨#[102]⟩ : ByteArray), (⟨#[102, 35]⟩ : ByteArray), (⟨#[103]⟩ : ByteArray), (⟨#[103, 35]⟩ : ByteArray), (⟨#[97]⟩ : ByteArray), (⟨#[97, 35]⟩ : ByteArray), (⟨#[98]⟩ : ByteArray)] : List ByteArray) : List ByteArray)).bind fun y477 => (if 0 ≤ (Int.tmod a0 12) then (if (Int.tmod a0 12) < (y477.length : Int) then ((itoa.f (wrap64 (Int.tdiv a0 12))).bind fun t481 => (if (rdOf ByteArray.empty y477 (Int.tmod a0 12)).size + t481.size ≤ 9223372036854775807 then (some ((rdOf ByteArray.empty y477 (Int.tmod a0 12)) ++ t481)) else (none))) else (none)) else (none))
set_option maxHeartbeats 8000000 in
set_option maxRecDepth 100000 in
theorem impl_pitchName.calls (a0 : Int) (r : ByteArray) (w : World) (h : impl_pitchName.f a0 = some r) :
  Calls Tryz.prog 55 #[.int .i64 a0] w fun e w' => e = .returned (.string r) ∧ Below w.heap.size w w' := by
 have HB := M_ (Below.refl w.heap.size w)
 have H : ((some (([(⟨#[99]⟩ : ByteArray), (⟨#[99, 35]⟩ : ByteArray), (⟨#[100]⟩ : ByteArray), (⟨#[100, 35]⟩ : ByteArray), (⟨#[101]⟩ : ByteArray), (⟨#[102]⟩ : ByteArray), (⟨#[102, 35]⟩ : ByteArray), (⟨#[103]⟩ : ByteArray), (⟨#[103, 35]⟩ : ByteArray), (⟨#[97]⟩ : ByteArray), (⟨#[97, 35]⟩ : ByteArray), (⟨#[98]⟩ : ByteArray)] : List ByteArray) : List ByteArray)).bind fun y477 => (if 0 ≤ (Int.tmod a0 12) then (if (Int.tmod a0 12) < (y477.length : Int) then ((itoa.f (wrap64 (Int.tdiv a0 12))).bind fun t481 => (if (rdOf ByteArray.empty y477 (Int.tmod a0 12)).size + t481.size ≤ 9223372036854775807 then (some ((rdOf ByteArray.empty y477 (Int.tmod a0 12)) ++ t481)) else (none))) else (none)) else (none))) = some r := h
 clear h;obtain ⟨y477, hy477, H⟩ := ob_ H;(try dsimp only at H);have Ny477 := M_ hy477;clear hy477;obtain ⟨ji2, hji2⟩ : ∃ j_ : Int, (Int.tmod a0 12) = j_ := ⟨_, rfl⟩
 replace H : (if 0 ≤ (ji2) then (if (ji2) < (y477.length : Int) then ((itoa.f (wrap64 (Int.tdiv a0 12))).bind fun t481 => (if (rdOf ByteArray.empty y477 (ji2)).size + t481.size ≤ 9223372036854775807 then (some ((rdOf ByteArray.empty y477 (ji2)) ++ t481)) else (none))) else (none)) else (none)) = some r := by first | (rw [hji2] at H; exact H) | (simp only [hji2] at H ⊢; exact H)
 by_cases c3 : 0 ≤ (ji2)
 ·rw [if_pos c3] at H
  have c3b0 : decide (0 ≤ (ji2)) = true := decide_eq_true c3
  clear c3
  by_cases c4 : (ji2) < (y477.length : Int)
  ·rw [if_pos c4] at H
   have c4b0 : decide ((ji2) < (y477.length : Int)) = true := decide_eq_true c4
   clear c4;replace H := Option.bind_eq_some_iff.mp H;obtain ⟨t481, A50, H⟩ := H;(try dsimp only at H);have A5 := M_ A50;clear A50
   by_cases c6 : (rdOf ByteArray.empty y477 (ji2)).size + t481.size ≤ 9223372036854775807
   ·rw [if_pos c6] at H
    have c6b0 := eq_true c6
    have c6b1 : decide ((rdOf ByteArray.empty y477 (ji2)).size + t481.size ≤ 9223372036854775807) = true := decide_eq_true c6
    try have c6b2 : (9223372036854775807 < (rdOf ByteArray.empty y477 (ji2)).size + t481.size) = False := eq_false (Nat.not_lt.2 c6)
    obtain rfl := Option.some.inj H
    go_enter Tryz.func55, Tryz.ntmps55
    go_wp2_with (first | ((with_reducible refine gate_dst (N := 4) rfl ?_); refine Kd.R_lit Kd.string _ 9 ?hg (N := 4) ?hd (xs := ([(⟨#[99]⟩ : ByteArray), (⟨#[99, 35]⟩ : ByteArray), (⟨#[100]⟩ : ByteArray), (⟨#[100, 35]⟩ : ByteArray), (⟨#[101]⟩ : ByteArray), (⟨#[102]⟩ : ByteArray), (⟨#[102, 35]⟩ : ByteArray), (⟨#[103]⟩ : ByteArray), (⟨#[103, 35]⟩ : ByteArray), (⟨#[97]⟩ : ByteArray), (⟨#[97, 35]⟩ : ByteArray), (⟨#[98]⟩ : ByteArray)] : List ByteArray)) (inner := [.string (⟨#[99]⟩ : ByteArray), .string (⟨#[99, 35]⟩ : ByteArray), .string (⟨#[100]⟩ : ByteArray), .string (⟨#[100, 35]⟩ : ByteArray), .string (⟨#[101]⟩ : ByteArray), .string (⟨#[102]⟩ : ByteArray), .string (⟨#[102, 35]⟩ : ByteArray), .string (⟨#[103]⟩ : ByteArray), .string (⟨#[103, 35]⟩ : ByteArray), .string (⟨#[97]⟩ : ByteArray), .string (⟨#[97, 35]⟩ : ByteArray), .string (⟨#[98]⟩ : ByteArray)]) (ok := fun _ => True) (okp := fun _ => True) ?hr ?hp (fun _ hk => hk) trivial (Below.refl _ _) (Nat.le_refl _) (by simp) ?_; (case hd => rfl); (case hg => rfl); (case hr => first | (go_simp; done) | (go_simp; rfl)); (case hp => exact (Reps.one (show Kd.M Kd.string _ _ _ (⟨#[99]⟩ : ByteArray) [.string (⟨#[99]⟩ : ByteArray)] from rfl) (Reps.one (show Kd.M Kd.string _ _ _ (⟨#[99, 35]⟩ : ByteArray) [.string (⟨#[99, 35]⟩ : ByteArray)] from rfl) (Reps.one (show Kd.M Kd.string _ _ _ (⟨#[100]⟩ : ByteArray) [.string (⟨#[100]⟩ : ByteArray)] from rfl) (Reps.one (show Kd.M Kd.string _ _ _ (⟨#[100, 35]⟩ : ByteArray) [.string (⟨#[100, 35]⟩ : ByteArray)] from rfl) (Reps.one (show Kd.M Kd.string _ _ _ (⟨#[101]⟩ : ByteArray) [.string (⟨#[101]⟩ : ByteArray)] from rfl) (Reps.one (show Kd.M Kd.string _ _ _ (⟨#[102]⟩ : ByteArray) [.string (⟨#[102]⟩ : ByteArray)] from rfl) (Reps.one (show Kd.M Kd.string _ _ _ (⟨#[102, 35]⟩ : ByteArray) [.string (⟨#[102, 35]⟩ : ByteArray)] from rfl) (Reps.one (show Kd.M Kd.string _ _ _ (⟨#[103]⟩ : ByteArray) [.string (⟨#[103]⟩ : ByteArray)] from rfl) (Reps.one (show Kd.M Kd.string _ _ _ (⟨#[103, 35]⟩ : ByteArray) [.string (⟨#[103, 35]⟩ : ByteArray)] from rfl) (Reps.one (show Kd.M Kd.string _ _ _ (⟨#[97]⟩ : ByteArray) [.string (⟨#[97]⟩ : ByteArray)] from rfl) (Reps.one (show Kd.M Kd.string _ _ _ (⟨#[97, 35]⟩ : ByteArray) [.string (⟨#[97, 35]⟩ : ByteArray)] from rfl) (Reps.one (show Kd.M Kd.string _ _ _ (⟨#[98]⟩ : ByteArray) [.string (⟨#[98]⟩ : ByteArray)] from rfl) (Reps.none _ _)))))))))))))); intro v478 w7 ho8 hb hg_ hnew_; clear hg_ hnew_; (first | rw [← Ny477.out] at ho8 | (simp only [Int.reduceToNat] at ho8; rw [← Ny477.out] at ho8)); have HO479 := M_ (Kd.R_lower ho8 (bZ_ HB)); replace HB := M_ (bS_ HB hb); clear hb ho8; obtain ⟨Ao9, co9, eo9⟩ := Kd.R_slice HO479.out; subst eo9; have p480 : 0 ≤ ((ji2) : Int) := dT_; have q480 : (ji2) < (y477.length : Int) := dT_; obtain ⟨ad480, e480, hx480_0⟩ := Kd.at_string (Kd.R_reads' HO479.out).2.2 (ji2) p480 q480; cases e480; replace p480 := eq_true p480; replace q480 := eq_true q480) | (go_at_call 84; (with_reducible refine (itoa.calls (wrap64 (Int.tdiv a0 12)) t481 _ A5.out).mono ?_); rintro e w' ⟨rfl, ⟨nd, rfl⟩⟩; (try first | exact ⟨rfl, _, World.drewN_drewN _ _ _⟩ | exact ⟨rfl, _, Eq.trans (World.drewN_drewN _ _ _) (congrArg (World.drewN _) (Nat.add_assoc _ _ _))⟩)))
    repeat (go_quiet (first | ((with_reducible refine gate_dst (N := 4) rfl ?_); refine Kd.R_lit Kd.string _ 9 ?hg (N := 4) ?hd (xs := ([(⟨#[99]⟩ : ByteArray), (⟨#[99, 35]⟩ : ByteArray), (⟨#[100]⟩ : ByteArray), (⟨#[100, 35]⟩ : ByteArray), (⟨#[101]⟩ : ByteArray), (⟨#[102]⟩ : ByteArray), (⟨#[102, 35]⟩ : ByteArray), (⟨#[103]⟩ : ByteArray), (⟨#[103, 35]⟩ : ByteArray), (⟨#[97]⟩ : ByteArray), (⟨#[97, 35]⟩ : ByteArray), (⟨#[98]⟩ : ByteArray)] : List ByteArray)) (inner := [.string (⟨#[99]⟩ : ByteArray), .string (⟨#[99, 35]⟩ : ByteArray), .string (⟨#[100]⟩ : ByteArray), .string (⟨#[100, 35]⟩ : ByteArray), .string (⟨#[101]⟩ : ByteArray), .string (⟨#[102]⟩ : ByteArray), .string (⟨#[102, 35]⟩ : ByteArray), .string (⟨#[103]⟩ : ByteArray), .string (⟨#[103, 35]⟩ : ByteArray), .string (⟨#[97]⟩ : ByteArray), .string (⟨#[97, 35]⟩ : ByteArray), .string (⟨#[98]⟩ : ByteArray)]) (ok := fun _ => True) (okp := fun _ => True) ?hr ?hp (fun _ hk => hk) trivial (Below.refl _ _) (Nat.le_refl _) (by simp) ?_; (case hd => rfl); (case hg => rfl); (case hr => first | (go_simp; done) | (go_simp; rfl)); (case hp => exact (Reps.one (show Kd.M Kd.string _ _ _ (⟨#[99]⟩ : ByteArray) [.string (⟨#[99]⟩ : ByteArray)] from rfl) (Reps.one (show Kd.M Kd.string _ _ _ (⟨#[99, 35]⟩ : ByteArray) [.string (⟨#[99, 35]⟩ : ByteArray)] from rfl) (Reps.one (show Kd.M Kd.string _ _ _ (⟨#[100]⟩ : ByteArray) [.string (⟨#[100]⟩ : ByteArray)] from rfl) (Reps.one (show Kd.M Kd.string _ _ _ (⟨#[100, 35]⟩ : ByteArray) [.string (⟨#[100, 35]⟩ : ByteArray)] from rfl) (Reps.one (show Kd.M Kd.string _ _ _ (⟨#[101]⟩ : ByteArray) [.string (⟨#[101]⟩ : ByteArray)] from rfl) (Reps.one (show Kd.M Kd.string _ _ _ (⟨#[102]⟩ : ByteArray) [.string (⟨#[102]⟩ : ByteArray)] from rfl) (Reps.one (show Kd.M Kd.string _ _ _ (⟨#[102, 35]⟩ : ByteArray) [.string (⟨#[102, 35]⟩ : ByteArray)] from rfl) (Reps.one (show Kd.M Kd.string _ _ _ (⟨#[103]⟩ : ByteArray) [.string (⟨#[103]⟩ : ByteArray)] from rfl) (Reps.one (show Kd.M Kd.string _ _ _ (⟨#[103, 35]⟩ : ByteArray) [.string (⟨#[103, 35]⟩ : ByteArray)] from rfl) (Reps.one (show Kd.M Kd.string _ _ _ (⟨#[97]⟩ : ByteArray) [.string (⟨#[97]⟩ : ByteArray)] from rfl) (Reps.one (show Kd.M Kd.string _ _ _ (⟨#[97, 35]⟩ : ByteArray) [.string (⟨#[97, 35]⟩ : ByteArray)] from rfl) (Reps.one (show Kd.M Kd.string _ _ _ (⟨#[98]⟩ : ByteArray) [.string (⟨#[98]⟩ : ByteArray)] from rfl) (Reps.none _ _)))))))))))))); intro v478 w7 ho8 hb hg_ hnew_; clear hg_ hnew_; (first | rw [← Ny477.out] at ho8 | (simp only [Int.reduceToNat] at ho8; rw [← Ny477.out] at ho8)); have HO479 := M_ (Kd.R_lower ho8 (bZ_ HB)); replace HB := M_ (bS_ HB hb); clear hb ho8; obtain ⟨Ao9, co9, eo9⟩ := Kd.R_slice HO479.out; subst eo9; have p480 : 0 ≤ ((ji2) : Int) := dT_; have q480 : (ji2) < (y477.length : Int) := dT_; obtain ⟨ad480, e480, hx480_0⟩ := Kd.at_string (Kd.R_reads' HO479.out).2.2 (ji2) p480 q480; cases e480; replace p480 := eq_true p480; replace q480 := eq_true q480) | (go_at_call 84; (with_reducible refine (itoa.calls (wrap64 (Int.tdiv a0 12)) t481 _ A5.out).mono ?_); rintro e w' ⟨rfl, ⟨nd, rfl⟩⟩; (try first | exact ⟨rfl, _, World.drewN_drewN _ _ _⟩ | exact ⟨rfl, _, Eq.trans (World.drewN_drewN _ _ _) (congrArg (World.drewN _) (Nat.add_assoc _ _ _))⟩))); try go_wp2_with (first | ((with_reducible refine gate_dst (N := 4) rfl ?_); refine Kd.R_lit Kd.string _ 9 ?hg (N := 4) ?hd (xs := ([(⟨#[99]⟩ : ByteArray), (⟨#[99, 35]⟩ : ByteArray), (⟨#[100]⟩ : ByteArray), (⟨#[100, 35]⟩ : ByteArray), (⟨#[101]⟩ : ByteArray), (⟨#[102]⟩ : ByteArray), (⟨#[102, 35]⟩ : ByteArray), (⟨#[103]⟩ : ByteArray), (⟨#[103, 35]⟩ : ByteArray), (⟨#[97]⟩ : ByteArray), (⟨#[97, 35]⟩ : ByteArray), (⟨#[98]⟩ : ByteArray)] : List ByteArray)) (inner := [.string (⟨#[99]⟩ : ByteArray), .string (⟨#[99, 35]⟩ : ByteArray), .string (⟨#[100]⟩ : ByteArray), .string (⟨#[100, 35]⟩ : ByteArray), .string (⟨#[101]⟩ : ByteArray), .string (⟨#[102]⟩ : ByteArray), .string (⟨#[102, 35]⟩ : ByteArray), .string (⟨#[103]⟩ : ByteArray), .string (⟨#[103, 35]⟩ : ByteArray), .string (⟨#[97]⟩ : ByteArray), .string (⟨#[97, 35]⟩ : ByteArray), .string (⟨#[98]⟩ : ByteArray)]) (ok := fun _ => True) (okp := fun _ => True) ?hr ?hp (fun _ hk => hk) trivial (Below.refl _ _) (Nat.le_refl _) (by simp) ?_; (case hd => rfl); (case hg => rfl); (case hr => first | (go_simp; done) | (go_simp; rfl)); (case hp => exact (Reps.one (show Kd.M Kd.string _ _ _ (⟨#[99]⟩ : ByteArray) [.string (⟨#[99]⟩ : ByteArray)] from rfl) (Reps.one (show Kd.M Kd.string _ _ _ (⟨#[99, 35]⟩ : ByteArray) [.string (⟨#[99, 35]⟩ : ByteArray)] from rfl) (Reps.one (show Kd.M Kd.string _ _ _ (⟨#[100]⟩ : ByteArray) [.string (⟨#[100]⟩ : ByteArray)] from rfl) (Reps.one (show Kd.M Kd.string _ _ _ (⟨#[100, 35]⟩ : ByteArray) [.string (⟨#[100, 35]⟩ : ByteArray)] from rfl) (Reps.one (show Kd.M Kd.string _ _ _ (⟨#[101]⟩ : ByteArray) [.string (⟨#[101]⟩ : ByteArray)] from rfl) (Reps.one (show Kd.M Kd.string _ _ _ (⟨#[102]⟩ : ByteArray) [.string (⟨#[102]⟩ : ByteArray)] from rfl) (Reps.one (show Kd.M Kd.string _ _ _ (⟨#[102, 35]⟩ : ByteArray) [.string (⟨#[102, 35]⟩ : ByteArray)] from rfl) (Reps.one (show Kd.M Kd.string _ _ _ (⟨#[103]⟩ : ByteArray) [.string (⟨#[103]⟩ : ByteArray)] from rfl) (Reps.one (show Kd.M Kd.string _ _ _ (⟨#[103, 35]⟩ : ByteArray) [.string (⟨#[103, 35]⟩ : ByteArray)] from rfl) (Reps.one (show Kd.M Kd.string _ _ _ (⟨#[97]⟩ : ByteArray) [.string (⟨#[97]⟩ : ByteArray)] from rfl) (Reps.one (show Kd.M Kd.string _ _ _ (⟨#[97, 35]⟩ : ByteArray) [.string (⟨#[97, 35]⟩ : ByteArray)] from rfl) (Reps.one (show Kd.M Kd.string _ _ _ (⟨#[98]⟩ : ByteArray) [.string (⟨#[98]⟩ : ByteArray)] from rfl) (Reps.none _ _)))))))))))))); intro v478 w7 ho8 hb hg_ hnew_; clear hg_ hnew_; (first | rw [← Ny477.out] at ho8 | (simp only [Int.reduceToNat] at ho8; rw [← Ny477.out] at ho8)); have HO479 := M_ (Kd.R_lower ho8 (bZ_ HB)); replace HB := M_ (bS_ HB hb); clear hb ho8; obtain ⟨Ao9, co9, eo9⟩ := Kd.R_slice HO479.out; subst eo9; have p480 : 0 ≤ ((ji2) : Int) := dT_; have q480 : (ji2) < (y477.length : Int) := dT_; obtain ⟨ad480, e480, hx480_0⟩ := Kd.at_string (Kd.R_reads' HO479.out).2.2 (ji2) p480 q480; cases e480; replace p480 := eq_true p480; replace q480 := eq_true q480) | (go_at_call 84; (with_reducible refine (itoa.calls (wrap64 (Int.tdiv a0 12)) t481 _ A5.out).mono ?_); rintro e w' ⟨rfl, ⟨nd, rfl⟩⟩; (try first | exact ⟨rfl, _, World.drewN_drewN _ _ _⟩ | exact ⟨rfl, _, Eq.trans (World.drewN_drewN _ _ _) (congrArg (World.drewN _) (Nat.add_assoc _ _ _))⟩))))
    go_ret
    exact ⟨by first | rfl | (simp [errW_none, errW_some] <;> rfl) | (simp only [← hji2]; first | rfl | (simp [errW_none, errW_some] <;> rfl)) | (simp [*, errW_none, errW_some] <;> rfl), bU_ HB⟩
   ·rw [if_neg c6] at H
    exact absurd H (by simp)
  ·rw [if_neg c4] at H
   exact absurd H (by simp)
 ·rw [if_neg c3] at H
  exact absurd H (by simp)
def impl_PitchName.f (a0 : Int) : Option (ByteArray × Bool) := (impl_isPitch.f a0).bind fun t482 => (if t482 = true then ((impl_pitchName.f a0).bind fun t483 => (some (t483, true))) else (some ((⟨#[]⟩ : ByteArray), false)))
set_option maxHeartbeats 8000000 in
set_option maxRecDepth 100000 in
theorem impl_PitchName.calls (a0 : Int) (r1 : ByteArray) (r2 : Bool) (w : World) (h : impl_PitchName.f a0 = some (r1, r2)) :
  Calls Tryz.prog 19 #[.int .i64 a0] w fun e w' => e = .returned (.tuple #[.string r1, .bool r2]) ∧ Below w.heap.size w w' := by
 have HB := M_ (Below.refl w.heap.size w)
 have H : ((impl_isPitch.f a0).bind fun t482 => (if t482 = true then ((impl_pitchName.f a0).bind fun t483 => (some (t483, true))) else (some ((⟨#[]⟩ : ByteArray), false)))) = some (r1, r2) := h
 clear h;replace H := Option.bind_eq_some_iff.mp H;obtain ⟨t482, A20, H⟩ := H;(try dsimp only at H);have A2 := M_ A20;clear A20
 by_cases c3 : t482 = true
 focus
  subst c3
  rw [if_pos rfl] at H
  replace H := Option.bind_eq_some_iff.mp H;obtain ⟨t483, A40, H⟩ := H;replace H : (some (t483, true)) = some (r1, r2) := H;have A4 := M_ A40;clear A40;simp only [Option.some.injEq, Prod.mk.injEq] at H;obtain ⟨rfl, rfl⟩ := H
 rotate_left
 focus
  replace c3 := Bool.eq_false_iff.mpr c3
  subst c3
  rw [if_neg (show ¬ (false = true) by decide)] at H
  simp only [Option.some.injEq, Prod.mk.injEq] at H;obtain ⟨rfl, rfl⟩ := H
 rotate_left
 all_goals
  go_enter Tryz.func19, Tryz.ntmps19
  go_wp2_with (first | ((with_reducible refine gc_ 54 ?_); refine gM_ (some 5) Tryz.func54 #[.int .i64 a0] ?_; (with_reducible refine (impl_isPitch.calls a0 _ _ A2.out).mono ?_); rintro e w' ⟨rfl, ⟨nd, rfl⟩⟩; refine ⟨_, rfl, ?_⟩) | ((with_reducible refine gc_ 55 ?_); refine gM_ (some 8) Tryz.func55 #[.int .i64 a0] ?_; (with_reducible refine (impl_pitchName.calls a0 t483 _ A4.out).mono ?_); rintro e w5 ⟨rfl, hb⟩; refine ⟨_, rfl, ?_⟩; replace HB := M_ (bS_ HB hb); clear hb))
  go_ret2
  exact ⟨eR_, bU_ HB⟩
def spec_ntNames.f  : Option (List ByteArray) := some (([(⟨#[99]⟩ : ByteArray), (⟨#[99, 35]⟩ : ByteArray), (⟨#[100]⟩ : ByteArray), (⟨#[100, 35]⟩ : ByteArray), (⟨#[101]⟩ : ByteArray), (⟨#[102]⟩ : ByteArray), (⟨#[102, 35]⟩ : ByteArray), (⟨#[103]⟩ : ByteArray), (⟨#[103, 35]⟩ : ByteArray), (⟨#[97]⟩ : ByteArray), (⟨#[97, 35]⟩ : ByteArray), (⟨#[98]⟩ : ByteArray)] : List ByteArray))
set_option maxHeartbeats 8000000 in
set_option maxRecDepth 100000 in
theorem spec_ntNames.calls  (r : List ByteArray) (w : World) (h : spec_ntNames.f  = some r) :
  Calls Tryz.prog 85 #[] w fun e w' => ∃ v0_ : Value, e = .returned (v0_) ∧ Kd.R Kd.string 9 w' w.heap.size (fun _ => True) v0_ r ∧ Below w.heap.size w w' := by
 have HB := M_ (Below.refl w.heap.size w)
 have H : (some (([(⟨#[99]⟩ : ByteArray), (⟨#[99, 35]⟩ : ByteArray), (⟨#[100]⟩ : ByteArray), (⟨#[100, 35]⟩ : ByteArray), (⟨#[101]⟩ : ByteArray), (⟨#[102]⟩ : ByteArray), (⟨#[102, 35]⟩ : ByteArray), (⟨#[103]⟩ : ByteArray), (⟨#[103, 35]⟩ : ByteArray), (⟨#[97]⟩ : ByteArray), (⟨#[97, 35]⟩ : ByteArray), (⟨#[98]⟩ : ByteArray)] : List ByteArray))) = some r := h
 clear h;obtain ⟨y484, hy484⟩ : ∃ y_ : List ByteArray, y_ = (([(⟨#[99]⟩ : ByteArray), (⟨#[99, 35]⟩ : ByteArray), (⟨#[100]⟩ : ByteArray), (⟨#[100, 35]⟩ : ByteArray), (⟨#[101]⟩ : ByteArray), (⟨#[102]⟩ : ByteArray), (⟨#[102, 35]⟩ : ByteArray), (⟨#[103]⟩ : ByteArray), (⟨#[103, 35]⟩ : ByteArray), (⟨#[97]⟩ : ByteArray), (⟨#[97, 35]⟩ : ByteArray), (⟨#[98]⟩ : ByteArray)] : List ByteArray)) := ⟨_, rfl⟩
 replace H : (some y484) = some r := by first | (rw [hy484]; with_reducible exact H) | (have H2_ := (Option.bind_some _ _).symm.trans H; rw [hy484]; with_reducible exact H2_) | (have H2_ := (Option.bind_some _ _).symm.trans H; with_reducible exact H2_) | with_reducible exact H | (rw [hy484]; exact H) | exact H
 have Ny484 := M_ hy484;clear hy484;obtain rfl := Option.some.inj H
 go_enter Tryz.func85, Tryz.ntmps85
 go_wp2_with (first | ((with_reducible refine gate_dst (N := 1) rfl ?_); refine Kd.R_lit Kd.string _ 9 ?hg (N := 1) ?hd (xs := ([(⟨#[99]⟩ : ByteArray), (⟨#[99, 35]⟩ : ByteArray), (⟨#[100]⟩ : ByteArray), (⟨#[100, 35]⟩ : ByteArray), (⟨#[101]⟩ : ByteArray), (⟨#[102]⟩ : ByteArray), (⟨#[102, 35]⟩ : ByteArray), (⟨#[103]⟩ : ByteArray), (⟨#[103, 35]⟩ : ByteArray), (⟨#[97]⟩ : ByteArray), (⟨#[97, 35]⟩ : ByteArray), (⟨#[98]⟩ : ByteArray)] : List ByteArray)) (inner := [.string (⟨#[99]⟩ : ByteArray), .string (⟨#[99, 35]⟩ : ByteArray), .string (⟨#[100]⟩ : ByteArray), .string (⟨#[100, 35]⟩ : ByteArray), .string (⟨#[101]⟩ : ByteArray), .string (⟨#[102]⟩ : ByteArray), .string (⟨#[102, 35]⟩ : ByteArray), .string (⟨#[103]⟩ : ByteArray), .string (⟨#[103, 35]⟩ : ByteArray), .string (⟨#[97]⟩ : ByteArray), .string (⟨#[97, 35]⟩ : ByteArray), .string (⟨#[98]⟩ : ByteArray)]) (ok := fun _ => True) (okp := fun _ => True) ?hr ?hp (fun _ hk => hk) trivial (Below.refl _ _) (Nat.le_refl _) (by simp) ?_; (case hd => rfl); (case hg => rfl); (case hr => first | (go_simp; done) | (go_simp; rfl)); (case hp => exact (Reps.one (show Kd.M Kd.string _ _ _ (⟨#[99]⟩ : ByteArray) [.string (⟨#[99]⟩ : ByteArray)] from rfl) (Reps.one (show Kd.M Kd.string _ _ _ (⟨#[99, 35]⟩ : ByteArray) [.string (⟨#[99, 35]⟩ : ByteArray)] from rfl) (Reps.one (show Kd.M Kd.string _ _ _ (⟨#[100]⟩ : ByteArray) [.string (⟨#[100]⟩ : ByteArray)] from rfl) (Reps.one (show Kd.M Kd.string _ _ _ (⟨#[100, 35]⟩ : ByteArray) [.string (⟨#[100, 35]⟩ : ByteArray)] from rfl) (Reps.one (show Kd.M Kd.string _ _ _ (⟨#[101]⟩ : ByteArray) [.string (⟨#[101]⟩ : ByteArray)] from rfl) (Reps.one (show Kd.M Kd.string _ _ _ (⟨#[102]⟩ : ByteArray) [.string (⟨#[102]⟩ : ByteArray)] from rfl) (Reps.one (show Kd.M Kd.string _ _ _ (⟨#[102, 35]⟩ : ByteArray) [.string (⟨#[102, 35]⟩ : ByteArray)] from rfl) (Reps.one (show Kd.M Kd.string _ _ _ (⟨#[103]⟩ : ByteArray) [.string (⟨#[103]⟩ : ByteArray)] from rfl) (Reps.one (show Kd.M Kd.string _ _ _ (⟨#[103, 35]⟩ : ByteArray) [.string (⟨#[103, 35]⟩ : ByteArray)] from rfl) (Reps.one (show Kd.M Kd.string _ _ _ (⟨#[97]⟩ : ByteArray) [.string (⟨#[97]⟩ : ByteArray)] from rfl) (Reps.one (show Kd.M Kd.string _ _ _ (⟨#[97, 35]⟩ : ByteArray) [.string (⟨#[97, 35]⟩ : ByteArray)] from rfl) (Reps.one (show Kd.M Kd.string _ _ _ (⟨#[98]⟩ : ByteArray) [.string (⟨#[98]⟩ : ByteArray)] from rfl) (Reps.none _ _)))))))))))))); intro v485 w1 ho2 hb hg_ hnew_; clear hg_ hnew_; (first | rw [← Ny484.out] at ho2 | (simp only [Int.reduceToNat] at ho2; rw [← Ny484.out] at ho2)); have HO486 := M_ (Kd.R_lower ho2 (bZ_ HB)); replace HB := M_ (bS_ HB hb); clear hb ho2))
 go_ret
 exact ⟨_, eR_, rU_ HO486.out, bU_ HB⟩
def spec_l1Num.f : Nat → Int → Option (ByteArray)
 | 0, _ => none
 | k + 1, a0 => if a0 < 10 then (some (strOfNums (([(wrap64 (48 + a0)) % 256] : List Int)))) else ((spec_l1Num.f k (wrap64 (Int.tdiv a0 10))).bind fun t490 => ((some (([(wrap64 (48 + (Int.tmod a0 10))) % 256] : List Int) : List Int)).bind fun y491 => (if t490.size + (strOfNums y491).size ≤ 9223372036854775807 then (some (t490 ++ (strOfNums y491))) else (none))))
theorem spec_l1Num.mono_l : ∀ k, (∀ y0, LeO (spec_l1Num.f k y0) (spec_l1Num.f (k + 1) y0))
 | 0 => fun _ r h => by simp [spec_l1Num.f] at h
 | k + 1 => by
  have ih0 := spec_l1Num.mono_l k
  ·intro y0
   unfold spec_l1Num.f
   exact mo_
theorem spec_l1Num.mono : ∀ a0 k, LeO (spec_l1Num.f k a0) (spec_l1Num.f (k + 1) a0) := by
 intro a0 k;have ih0 := spec_l1Num.mono_l k;exact ih0 a0
def spec_l1Num.T3 : Bool × List (List Nat × List Nat) := (true, [([], []), ([0], [0]), ([1], [1]), ([], []), ([3], [3]), ([4], [4]), ([5], [5]), ([6], [6]), ([7], [7]), ([2, 8], [2, 8]), ([9, 2, 0, 1, 2, 3, 4, 5, 6, 7, 8, 9], [9])])
def spec_l1Num.B3 : List Nat := [0, 1, 3, 0, 8, 24, 56, 120, 248, 511, 1023]
theorem spec_l1Num.tab3 : rtab .any (opsOf Tryz.f86 3) = spec_l1Num.T3 := by kernel_rfl
theorem spec_l1Num.bits3 : waitsOk spec_l1Num.T3.2 spec_l1Num.B3 = true := by kernel_rfl
set_option maxHeartbeats 8000000 in
set_option maxRecDepth 100000 in
theorem spec_l1Num.calls (k : Nat) : ∀ (a0 : Int) (r : ByteArray) (w : World) (h : spec_l1Num.f k a0 = some r),
  Calls Tryz.prog 86 #[.int .i64 a0] w fun e w' => e = .returned (.string r) ∧ Below w.heap.size w w' := by
 induction k using Nat.strongRecOn with
 | _ k ih =>
 intro a0 r w h
 cases k with
 | zero => exact absurd h (by simp [spec_l1Num.f])
 | succ k =>
 simp only [spec_l1Num.f] at h;have HB := M_ (Below.refl w.heap.size w)
 have H : (if a0 < 10 then (some (strOfNums (([(wrap64 (48 + a0)) % 256] : List Int)))) else ((spec_l1Num.f k (wrap64 (Int.tdiv a0 10))).bind fun t490 => ((some (([(wrap64 (48 + (Int.tmod a0 10))) % 256] : List Int) : List Int)).bind fun y491 => (if t490.size + (strOfNums y491).size ≤ 9223372036854775807 then (some (t490 ++ (strOfNums y491))) else (none))))) = some r := h
 clear h
 by_cases c2 : a0 < 10
 ·rw [if_pos c2] at H
  have c2b0 : decide (a0 < 10) = true := decide_eq_true c2
  clear c2;obtain ⟨y487, hy487⟩ : ∃ y_ : List Int, y_ = (([(wrap64 (48 + a0)) % 256] : List Int)) := ⟨_, rfl⟩
  replace H : (some (strOfNums y487)) = some r := by first | (rw [hy487]; with_reducible exact H) | (have H2_ := (Option.bind_some _ _).symm.trans H; rw [hy487]; with_reducible exact H2_) | (have H2_ := (Option.bind_some _ _).symm.trans H; with_reducible exact H2_) | with_reducible exact H | (rw [hy487]; exact H) | exact H
  have Ny487 := M_ hy487;clear hy487;obtain rfl := Option.some.inj H
  go_enter Tryz.func86, Tryz.ntmps86
  go_wp2_with (first | ((with_reducible refine gate_dst (N := 8) rfl ?_); refine lt_ (Kd.int .u8) 5 (N := 8) (([(wrap64 (48 + a0)) % 256] : List Int)) [.int .u8 ((wrap64 (48 + a0)) % 256)] ri_ ?_; intro v488 w3 ho4 hb hg_ hnew_; clear hg_ hnew_; replace ho4 := rN_ Ny487 ho4; have HO489 := M_ (Kd.R_lower ho4 (bZ_ HB)); replace HB := M_ (bS_ HB hb); clear hb ho4; have hcv5 := own_string (P := Tryz.prog) Tryz.underlying22 Tryz.underlying5 Tryz.underlying9 (Kd.own_of_R HO489.out)))
  go_ret
  exact ⟨eR_, bU_ HB⟩
 ·rw [if_neg c2] at H
  have c2b0 : decide (a0 < 10) = false := decide_eq_false c2
  clear c2;replace H := Option.bind_eq_some_iff.mp H;obtain ⟨t490, A60, H⟩ := H;(try dsimp only at H);have A6 := M_ A60;clear A60;obtain ⟨y491, hy491, H⟩ := ob_ H;(try dsimp only at H);have Ny491 := M_ hy491;clear hy491
  by_cases c7 : t490.size + (strOfNums y491).size ≤ 9223372036854775807
  ·rw [if_pos c7] at H
   have c7b0 := eq_true c7
   have c7b1 : decide (t490.size + (strOfNums y491).size ≤ 9223372036854775807) = true := decide_eq_true c7
   try have c7b2 : (9223372036854775807 < t490.size + (strOfNums y491).size) = False := eq_false (Nat.not_lt.2 c7)
   obtain rfl := Option.some.inj H
   go_enter Tryz.func86, Tryz.ntmps86
   try go_wp2
   replace HB := M_ (b1_ HB.out);refine start_ (n := 11) (S := fun w' => True) (ds := []) #[F,F,F,F,F,F,F,F,F,F,F] (by kernel_rfl) rfl rfl trivial (fun hHeld => ?_); refine with_tabW spec_l1Num.tab3 spec_l1Num.bits3 (fun HT_ HW_ => ?_);generalize w.drew = w8 at HB hHeld ⊢;refine pR_ (i := 0) (N := some 10) #[T,F,F,F,F,F,F,F,F,F,F] ?_;refine pR_ (i := 1) (N := some 11) #[T,T,F,F,F,F,F,F,F,F,F] ?_;refine pR_ (i := 3) (N := some 13) #[T,T,F,T,F,F,F,F,F,F,F] ?_;refine pR_ (i := 4) (N := some 14) #[T,T,F,T,T,F,F,F,F,F,F] ?_;refine pR_ (i := 5) (N := some 15) #[T,T,F,T,T,T,F,F,F,F,F] ?_;refine pR_ (i := 6) (N := some 16) #[T,T,F,T,T,T,T,F,F,F,F] ?_;refine join_ (σ := Value) 2 #[T,T,T,T,T,T,T,T,T,F,F] (fun s_ => [(12, .string t490), (17, s_), (18, .string (strOfNums y491))]) (fun s_ w' => (Kd.R (Kd.int .u8) 5 w' w.heap.size (fun _ => True) s_ y491) ∧ (Below w.heap.size w w')) ?_ ?_;rotate_left
   ·intro hCont
    refine two_ (i := 2) (j := 7) (Ni := some 12) (Nj := some 17) #[T,T,T,T,T,T,T,F,F,F,F] #[T,T,F,T,T,T,T,T,F,F,F] rfl rfl rfl rfl (two_of HT_.out (by kernel_rfl)) (by decide) (by decide) (fun K hK => ?_) (fun K hK => ?_)
    ·skip
     refine gS_ Tryz.func86 #[.int .i64 (wrap64 (Int.tdiv a0 10))] ?_
     with_reducible refine (ih k (by omega) (wrap64 (Int.tdiv a0 10)) t490 _ A6.out).mono ?_
     rintro e w9 ⟨rfl, hb⟩;refine ⟨_, rfl, ?_⟩;replace HB := M_ (bS_ HB hb);clear hb;refine hK.out _ _ trivial (fun hHeld => ?_);clear hK K;refine nM_ (some 12) ?_;refine one_ (i := 7) (N := some 17) #[T,T,T,T,T,T,T,T,F,F,F] rfl rfl (one_of HT_.out (by kernel_rfl)) (by decide) (fun K hK => ?_);refine ls_ (Kd.int .u8) 5 (N := 17) (([(wrap64 (48 + (Int.tmod a0 10))) % 256] : List Int)) [.int .u8 ((wrap64 (48 + (Int.tmod a0 10))) % 256)] ri_ ?_;intro v492 w10 ho11 hb hg_ hnew_;clear hg_ hnew_;replace ho11 := rN_ Ny491 ho11;have HO493 := M_ (Kd.R_lower ho11 (bZ_ HB)); replace HB := M_ (bS_ HB hb);clear hb ho11;refine hK.out _ _ trivial (fun hHeld => ?_);clear hK K;refine nM_ (some 17) ?_;refine one_ (i := 8) (N := some 18) #[T,T,T,T,T,T,T,T,T,F,F] rfl rfl (one_of HT_.out (by kernel_rfl)) (by decide) (fun K hK => ?_);have hcv12 := own_string (P := Tryz.prog) Tryz.underlying22 Tryz.underlying5 Tryz.underlying9 (Kd.own_of_R HO493.out);refine value_ (w1 := ?_) (v := ?_) (by rfl) rfl ?_ ?_
     rotate_left 2
     ·go_simp
      constructor
      ·rfl
      ·rfl
     clear hcv12;refine hK.out _ _ trivial (fun hHeld => ?_);clear hK K;refine nM_ (some 18) ?_;exact norm_ (by simp only [putAll, Act.put, la_, lb_, lc_]) (hCont (v492) _ ⟨(rU_ HO493.out), (bU_ HB)⟩)
    ·skip
     refine ls_ (Kd.int .u8) 5 (N := 17) (([(wrap64 (48 + (Int.tmod a0 10))) % 256] : List Int)) [.int .u8 ((wrap64 (48 + (Int.tmod a0 10))) % 256)] ri_ ?_;intro v492 w9 ho10 hb hg_ hnew_;clear hg_ hnew_;replace ho10 := rN_ Ny491 ho10;have HO493 := M_ (Kd.R_lower ho10 (bZ_ HB)); replace HB := M_ (bS_ HB hb);clear hb ho10;refine hK.out _ _ trivial (fun hHeld => ?_);clear hK K;refine nM_ (some 17) ?_;refine two_ (i := 2) (j := 8) (Ni := some 12) (Nj := some 18) #[T,T,T,T,T,T,T,T,F,F,F] #[T,T,F,T,T,T,T,T,T,F,F] rfl rfl rfl rfl (two_of HT_.out (by kernel_rfl)) (by decide) (by decide) (fun K hK => ?_) (fun K hK => ?_)
     ·skip
      refine gS_ Tryz.func86 #[.int .i64 (wrap64 (Int.tdiv a0 10))] ?_
      with_reducible refine (ih k (by omega) (wrap64 (Int.tdiv a0 10)) t490 _ A6.out).mono ?_
      rintro e w11 ⟨rfl, hb⟩;refine ⟨_, rfl, ?_⟩;replace HO493 := M_ (rB_ HO493 hb); replace HB := M_ (bS_ HB hb);clear hb;refine hK.out _ _ trivial (fun hHeld => ?_);clear hK K;refine nM_ (some 12) ?_;refine one_ (i := 8) (N := some 18) #[T,T,T,T,T,T,T,T,T,F,F] rfl rfl (one_of HT_.out (by kernel_rfl)) (by decide) (fun K hK => ?_);have hcv12 := own_string (P := Tryz.prog) Tryz.underlying22 Tryz.underlying5 Tryz.underlying9 (Kd.own_of_R HO493.out);refine value_ (w1 := ?_) (v := ?_) (by rfl) rfl ?_ ?_
      rotate_left 2
      ·go_simp
       constructor
       ·rfl
       ·rfl
      clear hcv12;refine hK.out _ _ trivial (fun hHeld => ?_);clear hK K;refine nM_ (some 18) ?_;exact norm_ (by simp only [putAll, Act.put, la_, lb_, lc_]) (hCont (v492) _ ⟨(rU_ HO493.out), (bU_ HB)⟩)
     ·skip
      have hcv11 := own_string (P := Tryz.prog) Tryz.underlying22 Tryz.underlying5 Tryz.underlying9 (Kd.own_of_R HO493.out);refine value_ (w1 := ?_) (v := ?_) (by rfl) rfl ?_ ?_
      rotate_left 2
      ·go_simp
       constructor
       ·rfl
       ·rfl
      clear hcv11;refine hK.out _ _ trivial (fun hHeld => ?_);clear hK K;refine nM_ (some 18) ?_;refine one_ (i := 2) (N := some 12) #[T,T,T,T,T,T,T,T,T,F,F] rfl rfl (one_of HT_.out (by kernel_rfl)) (by decide) (fun K hK => ?_);refine gS_ Tryz.func86 #[.int .i64 (wrap64 (Int.tdiv a0 10))] ?_
      with_reducible refine (ih k (by omega) (wrap64 (Int.tdiv a0 10)) t490 _ A6.out).mono ?_
      rintro e w12 ⟨rfl, hb⟩;refine ⟨_, rfl, ?_⟩;replace HO493 := M_ (rB_ HO493 hb); replace HB := M_ (bS_ HB hb);clear hb;refine hK.out _ _ trivial (fun hHeld => ?_);clear hK K;refine nM_ (some 12) ?_;exact norm_ (by simp only [putAll, Act.put, la_, lb_, lc_]) (hCont (v492) _ ⟨(rU_ HO493.out), (bU_ HB)⟩)
   rintro v492 w13 ⟨h0_, h1_⟩
   have n0_ : Aside0 (Kd.R (Kd.int .u8) 5 w13 w.heap.size (fun _ => True) v492 y491) := ⟨h0_⟩
   have n1_ : Aside0 (Below w.heap.size w w13) := ⟨h1_⟩
   clear HB;clear h0_ h1_;have HO493 := n0_;have HB := n1_;clear n0_ n1_;have hHeld := trivial;refine norm_ (a' := ?_) ?_ ?_;rotate_left
   ·simp only [putAll, Act.put, la_, lb_, lc_]
    rfl
   refine pR_ (i := 9) (N := some 19) #[T,T,T,T,T,T,T,T,T,T,F] ?_;refine pR_ (i := 10) (N := some 2) #[T,T,T,T,T,T,T,T,T,T,T] ?_;refine done_ (done_of HT_.out (by kernel_rfl)) ?_
   try go_wp2
   go_ret
   exact ⟨eR_, bU_ HB⟩
  ·rw [if_neg c7] at H
   exact absurd H (by simp)
end Go.Proofs.YtfpfjnmjekjnhaaGreatDoor.PFnNotes
