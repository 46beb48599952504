-- by wip/xprint.py, over the kit's printer
import Derived.Test.YtgeipgflhjakjaaPFnPlayablex0
import Derived.Test.YtgeipgflhjakjaaPFnPlayablex4
import Derived.Test.YtgeipgflhjakjaaPFnPlayablex16
namespace Go.Proofs.Ytgeipgflhjakjaa.PFnPlayable
open Go.RowKit Go.Proofs.YtgeipgflhjakjaaW.PrintWords Go.Proofs.YtgeipgflhjakjaaW.PrintLast Go.Proofs.YtgeipgflhjakjaaW.PrintMore
attribute [local go_sem] max2_int min2_int max_two min_two max_three min_three max_four min_four   -- for this text's walks alone
set_option linter.unusedVariables false
set_option linter.unusedSimpArgs false

mutual
def spec_inPart.l0 : Nat → List (S80) → List (S80) → Int → Int → List Int → Int → Option ((List (S80)))
 | 0, _, _, _, _, _, _ => none
 | k + 1, x5, x10, x11, x12, x537000, x537001 => if x12 < x11 then (if 0 ≤ x12 then (if x12 < (x10.length : Int) then ((some (([] : List (S80)) : List (S80))).bind fun y539 => (if y539.length + x5.length < 5864062014805 then ((some (y539 ++ x5 : List (S80))).bind fun y542 => ((some (([(⟨(rd_T80 x10 x12).f0, (rd_T80 x10 x12).f1, (rd_T80 x10 x12).f2⟩ : S80)] : List (S80)) : List (S80))).bind fun y545 => (if y542.length + y545.length < 5864062014805 then ((some (y542 ++ y545 : List (S80))).bind fun y548 => ((spec_inLast.f k y548 (x5.length : Int)).bind fun t551 => ((spec_inTrack.f k x537000 x537001 ((rd_T80 x10 x12).f0)).bind fun t552 => (if t552 ≥ 0 then (if t551 < 0 then (spec_inPart.j1 k x5 y548 x10 x11 x12 true x537000 x537001) else (if 0 ≤ t551 then (if t551 < (y548.length : Int) then (spec_inPart.j1 k x5 y548 x10 x11 x12 (decide ((wrap64 (((rd_T80 x10 x12).f1) - ((rd_T80 y548 t551).f1))) ≥ x537001)) x537000 x537001) else (none)) else (none))) else (spec_inPart.j1 k x5 y548 x10 x11 x12 false x537000 x537001))))) else (none)))) else (none))) else (none)) else (none)) else (some x5)
def spec_inPart.j1 : Nat → List (S80) → List (S80) → List (S80) → Int → Int → Bool → List Int → Int → Option ((List (S80)))
 | 0, _, _, _, _, _, _, _, _ => none
 | k + 1, x5, x8, x10, x11, x12, x47, x537000, x537001 => if x47 = true then (spec_inPart.l0 k x8 x10 x11 (wrap64 (x12 + 1)) x537000 x537001) else (spec_inPart.l0 k x5 x10 x11 (wrap64 (x12 + 1)) x537000 x537001)
end
def spec_inPart.f (k : Nat) (l0_0 : List Int) (a0_1 : Int) (l1 : List (S80)) : Option ((List (S80))) := spec_inPart.l0 k ([] : List (S80)) l1 (l1.length : Int) 0 l0_0 a0_1
theorem spec_inPart.mono_l : ∀ k, (∀ y0 y1 y2 y3 y4 y5, LeO (spec_inPart.l0 k y0 y1 y2 y3 y4 y5) (spec_inPart.l0 (k + 1) y0 y1 y2 y3 y4 y5)) ∧ (∀ y0 y1 y2 y3 y4 y5 y6 y7, LeO (spec_inPart.j1 k y0 y1 y2 y3 y4 y5 y6 y7) (spec_inPart.j1 (k + 1) y0 y1 y2 y3 y4 y5 y6 y7))
 | 0 => ⟨fun _ _ _ _ _ _ r h => by simp [spec_inPart.l0] at h, fun _ _ _ _ _ _ _ _ r h => by simp [spec_inPart.j1] at h⟩
 | k + 1 => by
  obtain ⟨ih0, ih1⟩ := spec_inPart.mono_l k;refine ⟨?_, ?_⟩
  ·intro y0 y1 y2 y3 y4 y5
   unfold spec_inPart.l0
   have m0_ := @spec_inLast.mono;have m1_ := @spec_inTrack.mono;exact mo_
  ·intro y0 y1 y2 y3 y4 y5 y6 y7
   unfold spec_inPart.j1
   have m0_ := @spec_inLast.mono;have m1_ := @spec_inTrack.mono;exact mo_
theorem spec_inPart.mono : ∀ a0 a1 a2 k, LeO (spec_inPart.f k a0 a1 a2) (spec_inPart.f (k + 1) a0 a1 a2) := by
 intro a0 a1 a2 k;obtain ⟨ih0, ih1⟩ := spec_inPart.mono_l k
 unfold spec_inPart.f
 have m0_ := @spec_inLast.mono;have m1_ := @spec_inTrack.mono;exact mo_
def spec_inPart.T7 : Bool × List (List Nat × List Nat) := (true, [([], []), ([], []), ([1], [1]), ([0, 2], [0, 2]), ([3], [3]), ([4, 3], [4]), ([5], [5]), ([6, 5], [5, 6]), ([7, 5, 5], [5, 7]), ([8], [8]), ([9, 8], [8, 9]), ([8], [8]), ([8], [8]), ([11, 12, 8], [8, 11, 12]), ([13, 8], [8, 13]), ([14, 8], [8, 14]), ([10, 15, 8], [8, 10, 15]), ([8], [8]), ([17, 8], [8, 17]), ([16, 18, 8], [8, 16, 18]), ([8, 19, 5], [5, 8, 19]), ([5, 20], [5, 20])])
def spec_inPart.B7 : List Nat := [0, 0, 2, 7, 15, 31, 63, 127, 255, 511, 1023, 511, 511, 6655, 14847, 31231, 65535, 511, 131583, 524287, 1048575, 2097151]
theorem spec_inPart.tab7 : rtab .any (opsOf Try.f109 7) = spec_inPart.T7 := by kernel_rfl
theorem spec_inPart.bits7 : waitsOk spec_inPart.T7.2 spec_inPart.B7 = true := by kernel_rfl
set_option maxHeartbeats 8000000 in
set_option maxRecDepth 100000 in
theorem spec_inPart.calls (k : Nat) (A0_0 : Option Addr) (c0_0 : Nat) (l0_0 : List Int) (a0_1 : Int) (A1 : Option Addr) (c1 : Nat) (l1 : List (S80)) (r : List (S80)) (w : World) (hr0_0 : Kd.C (Kd.int .i64) w A0_0 l0_0.length l0_0) (hc0_0 : l0_0.length ≤ c0_0) (hr1 : Kd.C k80 w A1 l1.length l1) (hc1 : l1.length ≤ c1) (h : spec_inPart.f k l0_0 a0_1 l1 = some r) :
  Calls Try.prog 109 #[.agg #[.slice A0_0 l0_0.length c0_0, .int .i64 a0_1], .slice A1 l1.length c1] w fun e w' => ∃ v0_ : Value, e = .returned (v0_) ∧ Kd.R k80 80 w' w.heap.size (fun _ => True) v0_ r ∧ Below w.heap.size w w' := by
 have hu58 := Try.underlying58;have hu80 := Try.underlying80;have HR0_0 := M_ hr0_0;have HC0_0 := M_ hc0_0;clear hr0_0 hc0_0;have HR1 := M_ hr1;have HC1 := M_ hc1;clear hr1 hc1;have HB := M_ (Below.refl w.heap.size w)
 have H : (spec_inPart.l0 k ([] : List (S80)) l1 (l1.length : Int) 0 l0_0 a0_1) = some r := h
 clear h
 have H' := M_ H
 clear H
 go_enter Try.func109, Try.ntmps109
 go_wp2_with (first | ((with_reducible refine gate_dst (N := 2) rfl ?_); refine bx_ (N := 2) (cs := #[.slice A0_0 l0_0.length c0_0, .int .i64 a0_1]) (t := 58) ?_; intro gb536 hg w3 hbox hb; have BK536 := M_ (hbox); have GW536 := M_ (gw_ HB hg); have GE536 := M_ (gw_ HB hg); replace HB := M_ (bS_ HB hb); clear hb hbox hg))
 go_loopg [5, 12] k (fun kq v5 v12 w' => ∃ (x5_1 : List (S80)) (x12_1 : Int), v12 = .int .i64 x12_1 ∧ Aside0 (spec_inPart.l0 kq x5_1 l1 (l1.length : Int) x12_1 l0_0 a0_1 = some r) ∧ Aside0 (kq ≤ k) ∧ Aside0 (Kd.R k80 80 w' w.heap.size (fun _ => True) v5 x5_1) ∧ Aside0 (w'.heap[gb536]? = some (.cells #[(.slice A0_0 l0_0.length c0_0), .int .i64 a0_1] 58 (0, 0))) ∧ Aside0 (Below w.heap.size w w'))
 case atStart => exact ⟨(([] : List (S80))), (0), eD_, H', ⟨Nat.le_refl _⟩, ⟨by first | exact Kd.R_nil _ _ _ _ _ | exact Kd.N_nil _ _ _ _ _ | exact Kd.V_nil _ _ _ _ _ | exact Kd.Q_nil _ _ _ _ _ | exact Kd.S_nil _ _ _ _ _⟩, ⟨kU_ BK536⟩, ⟨bU_ HB⟩⟩
 case round =>
  clear H';obtain ⟨x5_1, x12_1, rfl, HA, HK1, HO_5, BK536, HB⟩ := hrel
  cases gk with
  | zero => exact absurd HA.out (by simp [spec_inPart.l0])
  | succ k1 =>
   have H := HA.out;clear HA;simp only [spec_inPart.l0] at H
   by_cases c4 : x12_1 < (l1.length : Int)
   ·rw [if_pos c4] at H
    have c4b0 : decide (x12_1 < (l1.length : Int)) = true := decide_eq_true c4
    clear c4
    by_cases c5 : 0 ≤ x12_1
    ·rw [if_pos c5] at H
     have c5b0 : decide (0 ≤ x12_1) = true := decide_eq_true c5
     clear c5
     by_cases c6 : x12_1 < (l1.length : Int)
     ·rw [if_pos c6] at H
      have c6b0 : decide (x12_1 < (l1.length : Int)) = true := decide_eq_true c6
      clear c6;obtain ⟨y539, hy539, H⟩ := ob_ H;(try dsimp only at H);have Ny539 := M_ hy539;clear hy539
      by_cases c7 : y539.length + x5_1.length < 5864062014805
      ·rw [if_pos c7] at H
       have LMc7 := M_ c7;clear c7;obtain ⟨y542, hy542, H⟩ := ob_ H;(try dsimp only at H);have Ny542 := M_ hy542;clear hy542;obtain ⟨y545, hy545, H⟩ := ob_ H;(try dsimp only at H);have Ny545 := M_ hy545;clear hy545
       by_cases c8 : y542.length + y545.length < 5864062014805
       ·rw [if_pos c8] at H
        have LMc8 := M_ c8;clear c8;obtain ⟨y548, hy548, H⟩ := ob_ H;(try dsimp only at H);have Ny548 := M_ hy548;clear hy548;replace H := Option.bind_eq_some_iff.mp H;obtain ⟨t551, A90, H⟩ := H;(try dsimp only at H);have A9 := M_ A90;clear A90;have HC10 := M_ H;clear H
        have p537 : 0 ≤ (x12_1 : Int) := dT_
        have q537 : x12_1 < (l1.length : Int) := dT_
        obtain ⟨ad537, e537, hx537_0, hx537_1, hx537_2⟩ := at_T80 HR1.out x12_1 p537 q537;cases e537;replace hx537_0 := (HB.out.cell (World.block_lt_of_cell? w _ hx537_0)).trans hx537_0;replace hx537_1 := (HB.out.cell (World.block_lt_of_cell? w _ hx537_1)).trans hx537_1;replace hx537_2 := (HB.out.cell (World.block_lt_of_cell? w _ hx537_2)).trans hx537_2;replace p537 := eq_true p537;replace q537 := eq_true q537
        try go_wp2_with (first | ((with_reducible refine gate_dst (N := 7) rfl ?_); refine bx_ (N := 7) (cs := #[.int .i64 0, .int .i64 0, .int .i64 0]) (t := 80) ?_; intro gb538 hg w11 hbox hb; replace HO_5 := M_ (rb_ (Kd.R_elderB (rU_ HO_5.out) gb538 (Nat.le_of_eq hg.symm)) hb); have BK538 := M_ (hbox); have GW538 := M_ (gw_ HB hg); have GE538 := M_ (gw_ HB hg); replace HB := M_ (bS_ HB hb); have NB536_538 := M_ (nb_ BK536 hg); have NB538_536 := M_ ((by rw [hg]; exact Nat.ne_of_gt (blk_lt (kU_ BK536)) : gb538 ≠ gb536)); replace BK536 := M_ (kb_ BK536 hb); clear hb hbox hg; have hnb12 := NB538_536.out; have hnc12 := NB536_538.out; obtain ⟨hcz13_0, hcz13_1, hcz13_2, hfz13_0, hfz13_1, hfz13_2⟩ := bq3_ BK538; obtain ⟨Ao14, co14, eo14⟩ := Kd.R_slice HO_5.out; subst eo14))
        have n0_ : Aside0 (Kd.R k80 80 (((w11.setCell ⟨gb538, 0, none⟩ (.int .i64 ((rd_T80 l1 x12_1).f0))).setCell ⟨gb538, 1, none⟩ (.int .i64 ((rd_T80 l1 x12_1).f1))).setCell ⟨gb538, 2, none⟩ (.int .i64 ((rd_T80 l1 x12_1).f2))) w.heap.size (fun k_ => k_ ≠ gb538) (.slice Ao14 x5_1.length co14) x5_1) := ⟨by (with_reducible repeat (first | apply ra_ | apply rn_ | apply rd_)); exact rm_ (Kd.R_far (p := ⟨gb538, 2, none⟩) (Kd.R_far (p := ⟨gb538, 1, none⟩) (Kd.R_far (p := ⟨gb538, 0, none⟩) (rm_ HO_5.out (fun k_ hk => (⟨hk, hk.2⟩ : _ ∧ k_ ≠ gb538))) (fun _ hk => hk.2) (.int .i64 ((rd_T80 l1 x12_1).f0))) (fun _ hk => hk.2) (.int .i64 ((rd_T80 l1 x12_1).f1))) (fun _ hk => hk.2) (.int .i64 ((rd_T80 l1 x12_1).f2))) (fun _ hk => hk.1.2)⟩
        have n1_ : Aside0 ((((w11.setCell ⟨gb538, 0, none⟩ (.int .i64 ((rd_T80 l1 x12_1).f0))).setCell ⟨gb538, 1, none⟩ (.int .i64 ((rd_T80 l1 x12_1).f1))).setCell ⟨gb538, 2, none⟩ (.int .i64 ((rd_T80 l1 x12_1).f2))).heap[gb536]? = some (.cells #[.slice A0_0 l0_0.length c0_0, .int .i64 a0_1] 58 (0, 0))) := ⟨by (with_reducible repeat (first | refine kn_ ?_ _ | refine kd_ ?_ | refine ka_ ?_ _)); refine blk_far ?_ NB536_538.out _; (with_reducible repeat (first | refine kn_ ?_ _ | refine kd_ ?_ | refine ka_ ?_ _)); refine blk_far ?_ NB536_538.out _; (with_reducible repeat (first | refine kn_ ?_ _ | refine kd_ ?_ | refine ka_ ?_ _)); refine blk_far ?_ NB536_538.out _; (with_reducible repeat (first | refine kn_ ?_ _ | refine kd_ ?_ | refine ka_ ?_ _)); exact BK536.out⟩
        have n2_ : Aside0 ((((w11.setCell ⟨gb538, 0, none⟩ (.int .i64 ((rd_T80 l1 x12_1).f0))).setCell ⟨gb538, 1, none⟩ (.int .i64 ((rd_T80 l1 x12_1).f1))).setCell ⟨gb538, 2, none⟩ (.int .i64 ((rd_T80 l1 x12_1).f2))).heap[gb538]? = some (.cells #[.int .i64 ((rd_T80 l1 x12_1).f0), .int .i64 ((rd_T80 l1 x12_1).f1), .int .i64 ((rd_T80 l1 x12_1).f2)] 80 (0, 0))) := ⟨by (with_reducible repeat (first | refine kn_ ?_ _ | refine kd_ ?_ | refine ka_ ?_ _)); refine blk_put (cs := #[.int .i64 ((rd_T80 l1 x12_1).f0), .int .i64 ((rd_T80 l1 x12_1).f1), .int .i64 0]) ?_ 2 _ rfl; (with_reducible repeat (first | refine kn_ ?_ _ | refine kd_ ?_ | refine ka_ ?_ _)); refine blk_put (cs := #[.int .i64 ((rd_T80 l1 x12_1).f0), .int .i64 0, .int .i64 0]) ?_ 1 _ rfl; (with_reducible repeat (first | refine kn_ ?_ _ | refine kd_ ?_ | refine ka_ ?_ _)); refine blk_put (cs := #[.int .i64 0, .int .i64 0, .int .i64 0]) ?_ 0 _ rfl; (with_reducible repeat (first | refine kn_ ?_ _ | refine kd_ ?_ | refine ka_ ?_ _)); exact BK538.out⟩
        have n3_ : Aside0 (Below w.heap.size w (((w11.setCell ⟨gb538, 0, none⟩ (.int .i64 ((rd_T80 l1 x12_1).f0))).setCell ⟨gb538, 1, none⟩ (.int .i64 ((rd_T80 l1 x12_1).f1))).setCell ⟨gb538, 2, none⟩ (.int .i64 ((rd_T80 l1 x12_1).f2)))) := ⟨bU_ HB⟩
        (try clear HO_5)
        (try clear BK536)
        (try clear BK538)
        (try clear HB);generalize (((w11.setCell ⟨gb538, 0, none⟩ (.int .i64 ((rd_T80 l1 x12_1).f0))).setCell ⟨gb538, 1, none⟩ (.int .i64 ((rd_T80 l1 x12_1).f1))).setCell ⟨gb538, 2, none⟩ (.int .i64 ((rd_T80 l1 x12_1).f2))) = w15 at n0_ n1_ n2_ n3_ ⊢;have HO_5 := n0_;have BK536 := n1_;have BK538 := n2_;have HB := n3_;clear n0_ n1_ n2_ n3_;replace HO_5 := M_ (rd_ HO_5.out); replace BK536 := M_ (kd_ BK536.out); replace BK538 := M_ (kd_ BK538.out); replace HB := M_ (b1_ HB.out);refine start_ (n := 7) (S := fun w' => w'.cell? ⟨gb538, 0, none⟩ = some (.int .i64 ((rd_T80 l1 x12_1).f0)) ∧ w'.cell? ⟨gb538, 1, none⟩ = some (.int .i64 ((rd_T80 l1 x12_1).f1)) ∧ w'.cell? ⟨gb538, 2, none⟩ = some (.int .i64 ((rd_T80 l1 x12_1).f2))) (ds := []) #[false, false, false, false, false, false, false] (by kernel_rfl) rfl rfl ⟨bc0_ BK538, bc1_ BK538, bc2_ BK538⟩ (fun hHeld => ?_);generalize w15.drew = w16 at HO_5 BK536 BK538 HB hHeld ⊢;refine pure_ (i := 1) (N := some 17) (v := ?_) (a' := ?_) #[false, true, false, false, false, false, false] rfl rfl (by kernel_rfl) (fun _ _ _ h => h) (Or.inl ⟨by rfl, ?_⟩) ?_ ?_;rotate_left
        ·intro w'
         go_simp;with_reducible rfl
        rotate_left
        ·simp only [Act.put, la_, lb_, lc_, i64_w, i32_w]
         rfl
        refine take_ (i := 3) (N := some 19) (v := ?_) (a' := ?_) #[false, true, false, true, false, false, false] rfl rfl (by kernel_rfl) (fun _ _ _ h => h) (Or.inl ⟨by rfl, ?_⟩) hHeld ?_ ?_;rotate_left
        ·rintro w' ⟨s0, s1, s2⟩
         go_simp;with_reducible rfl
        rotate_left
        ·simp only [Act.put, la_, lb_, lc_, i64_w, i32_w]
         rfl
        refine join_ (σ := Value × Value × Value) 2 #[true, true, true, true, true, false, false] (fun s_ => [(16, s_.1), (18, s_.2.1), (20, s_.2.2)]) (fun s_ w' => (w'.cell? ⟨gb538, 0, none⟩ = some (.int .i64 ((rd_T80 l1 x12_1).f0)) ∧ w'.cell? ⟨gb538, 1, none⟩ = some (.int .i64 ((rd_T80 l1 x12_1).f1)) ∧ w'.cell? ⟨gb538, 2, none⟩ = some (.int .i64 ((rd_T80 l1 x12_1).f2))) ∧ (Kd.R k80 80 w' w.heap.size (fun k_ => some k_ ≠ (s_.2.2 : Value).ownBlock ∧ some k_ ≠ (.slice Ao14 x5_1.length co14 : Value).ownBlock ∧ k_ ≠ gb538) s_.2.1 y542) ∧ (Kd.R k80 80 w' w.heap.size (fun k_ => some k_ ≠ (s_.2.1 : Value).ownBlock ∧ some k_ ≠ (.slice Ao14 x5_1.length co14 : Value).ownBlock ∧ k_ ≠ gb538) s_.2.2 y545) ∧ (Kd.R k80 80 w' w.heap.size (fun k_ => some k_ ≠ (s_.2.1 : Value).ownBlock ∧ some k_ ≠ (s_.2.2 : Value).ownBlock ∧ k_ ≠ gb538) (.slice Ao14 x5_1.length co14) x5_1) ∧ (w'.heap[gb536]? = some (.cells #[.slice A0_0 l0_0.length c0_0, .int .i64 a0_1] 58 (0, 0))) ∧ (w'.heap[gb538]? = some (.cells #[.int .i64 ((rd_T80 l1 x12_1).f0), .int .i64 ((rd_T80 l1 x12_1).f1), .int .i64 ((rd_T80 l1 x12_1).f2)] 80 (0, 0))) ∧ (Below w.heap.size w w')) ?_ ?_;rotate_left
        ·intro hCont
         refine two_ (i := 0) (j := 4) (Ni := some 16) (Nj := some 20) #[true, true, false, true, false, false, false] #[false, true, false, true, true, false, false] rfl rfl rfl rfl (by kernel_rfl) (by decide) (by decide) (fun K hK => ?_) (fun K hK => ?_)
         ·skip
          refine ls_ k80 80 (N := 16) (([] : List (S80))) [] (Reps.none _ _) ?_;intro v540 w17 ho18 hb hg_ hnew_;clear hg_ hnew_;replace ho18 := rN_ Ny539 ho18;have HO541 := M_ (Kd.R_lower (Kd.R_newB (Kd.R_new' ho18 (rl_ HO_5)) (kU_ BK538)) (bZ_ HB)); replace HO_5 := M_ (re_ HO_5 ho18 hb); replace BK536 := M_ (kb_ BK536 hb); replace BK538 := M_ (kb_ BK538 hb); replace HB := M_ (bS_ HB hb);clear hb ho18;refine hK.out _ _ ⟨bc0_ BK538, bc1_ BK538, bc2_ BK538⟩ (fun hHeld => ?_);clear hK K;refine nM_ (some 16) ?_;refine two_ (i := 2) (j := 4) (Ni := some 18) (Nj := some 20) #[true, true, true, true, false, false, false] #[true, true, false, true, true, false, false] rfl rfl rfl rfl (by kernel_rfl) (by decide) (by decide) (fun K hK => ?_) (fun K hK => ?_)
          ·skip
           refine Kd.R_append_rows_step k80 (w0 := w) w.heap.size (by rfl) (.tmp 16) (.tmp 17) 48 80 (.agg #[(.int .i64 0), (.int .i64 0), (.int .i64 0)]) 24 rfl Try.underlying48 info80 rfl (by decide) (by omega) v540 y539 x5_1 _ _ _ (fun k_ => some k_ ≠ (.slice Ao14 x5_1.length co14 : Value).ownBlock ∧ k_ ≠ gb538) (fun _ => False) rfl rfl ?aO ?aR (fun _ _ h => h) (fun _ h => h.elim) ?aF ?aB ?aS ?aL ?_
           (case aR => exact cU_ (Kd.R_reads' HO_5.out).2.2)
           (case aB => exact (bU_ HB))
           (case aF => exact (fun k_ hk => ⟨Kd.fresh' (rl_ HO_5) k_ hk, Kd.freshB (kU_ BK538) k_ hk⟩))
           (case aO => exact (by (with_reducible repeat (first | apply ra_ | apply rn_ | apply rd_)); first | exact rm_ HO541.out (fun _ hk => ⟨hk.1.2, hk.2⟩) | exact rm_ HO541.out (fun _ hk => by refine ⟨?_, ?_⟩ <;> (first | exact hk.2 | exact hk.2.1 | exact hk.2.2 | exact hk.1.2 | exact hk.1.2.1 | exact hk.1.2.2 | exact hk.1.1.2 | exact hk.1.1.2.1 | exact hk.1.1.2.2 | exact hk.1.1.1.2 | exact hk.1.1.1.2.1 | exact hk.1.1.1.2.2 | exact hk.1.1.1.1.2 | exact hk.1.1.1.1.2.1 | exact hk.1.1.1.1.2.2 | exact hk | exact hk.1 | exact hk.1.1 | exact hk.1.1.1 | exact hk.1.1.1.1 | exact hk.1.1.1.1.1))))
           (case aS => exact (bZ_ HB))
           (case aL => have := LMc7.out; omega)
           intro v543 w19 ho hb hg hat
           rw [← Ny542.out] at ho
           replace HO_5 := M_ (Kd.R_after (ok := (fun k_ => k_ ≠ gb538)) (rU_ HO_5.out) hg hat); replace BK536 := M_ (kg_ BK536 hg (Kd.R_ne HO541.out BK536.out (by decide))); replace BK538 := M_ (kg_ BK538 hg (Kd.R_away HO541.out (fun _ hk => hk.2))); replace HB := M_ (hb); have HO544 := M_ (ho); clear HO541;clear ho hb hg hat;refine hK.out _ _ ⟨bc0_ BK538, bc1_ BK538, bc2_ BK538⟩ (fun hHeld => ?_);clear hK K;refine nM_ (some 18) ?_;refine one_ (i := 4) (N := some 20) #[true, true, true, true, true, false, false] rfl rfl (by kernel_rfl) (by decide) (fun K hK => ?_);refine ls_ k80 80 (N := 20) (([(⟨(rd_T80 l1 x12_1).f0, (rd_T80 l1 x12_1).f1, (rd_T80 l1 x12_1).f2⟩ : S80)] : List (S80))) [.int .i64 ((rd_T80 l1 x12_1).f0), .int .i64 ((rd_T80 l1 x12_1).f1), .int .i64 ((rd_T80 l1 x12_1).f2)] ?hp ?_; (case hp => exact (Reps.c3 (show Kd.M k80 _ _ _ (⟨(rd_T80 l1 x12_1).f0, (rd_T80 l1 x12_1).f1, (rd_T80 l1 x12_1).f2⟩ : S80) [.int .i64 ((rd_T80 l1 x12_1).f0), .int .i64 ((rd_T80 l1 x12_1).f1), .int .i64 ((rd_T80 l1 x12_1).f2)] from (k80_mkM _ _ _ (⟨(rd_T80 l1 x12_1).f0, (rd_T80 l1 x12_1).f1, (rd_T80 l1 x12_1).f2⟩ : S80) )) (Reps.none _ _)));intro v546 w20 ho21 hb hg_ hnew_;clear hg_ hnew_;replace ho21 := rN_ Ny545 ho21;have HO547 := M_ (Kd.R_lower (Kd.R_newB (Kd.R_new' (Kd.R_new' ho21 (rl_ HO_5)) (rl_ HO544)) (kU_ BK538)) (bZ_ HB)); replace HO_5 := M_ (re_ HO_5 ho21 hb); replace HO544 := M_ (re_ HO544 ho21 hb); replace BK536 := M_ (kb_ BK536 hb); replace BK538 := M_ (kb_ BK538 hb); replace HB := M_ (bS_ HB hb);clear hb ho21;refine hK.out _ _ ⟨bc0_ BK538, bc1_ BK538, bc2_ BK538⟩ (fun hHeld => ?_);clear hK K;refine nM_ (some 20) ?_;exact norm_ (by simp only [putAll, Act.put, la_, lb_, lc_]) (hCont (v540, v543, v546) _ ⟨hHeld, (rU_ (rm_ HO544.out (fun _ hk => ⟨hk.2, ⟨hk.1.1, hk.1.2⟩⟩))), (rU_ (rm_ HO547.out (fun _ hk => ⟨hk.1.2, ⟨hk.1.1.2, hk.2⟩⟩))), (rU_ (rm_ HO_5.out (fun _ hk => ⟨hk.1.2, ⟨hk.2, hk.1.1⟩⟩))), (kU_ BK536), (kU_ BK538), (bU_ HB)⟩)
          ·skip
           refine ls_ k80 80 (N := 20) (([(⟨(rd_T80 l1 x12_1).f0, (rd_T80 l1 x12_1).f1, (rd_T80 l1 x12_1).f2⟩ : S80)] : List (S80))) [.int .i64 ((rd_T80 l1 x12_1).f0), .int .i64 ((rd_T80 l1 x12_1).f1), .int .i64 ((rd_T80 l1 x12_1).f2)] ?hp ?_; (case hp => exact (Reps.c3 (show Kd.M k80 _ _ _ (⟨(rd_T80 l1 x12_1).f0, (rd_T80 l1 x12_1).f1, (rd_T80 l1 x12_1).f2⟩ : S80) [.int .i64 ((rd_T80 l1 x12_1).f0), .int .i64 ((rd_T80 l1 x12_1).f1), .int .i64 ((rd_T80 l1 x12_1).f2)] from (k80_mkM _ _ _ (⟨(rd_T80 l1 x12_1).f0, (rd_T80 l1 x12_1).f1, (rd_T80 l1 x12_1).f2⟩ : S80) )) (Reps.none _ _)));intro v546 w19 ho20 hb hg_ hnew_;clear hg_ hnew_;replace ho20 := rN_ Ny545 ho20;have HO547 := M_ (Kd.R_lower (Kd.R_newB (Kd.R_new' (Kd.R_new' ho20 (rl_ HO_5)) (rl_ HO541)) (kU_ BK538)) (bZ_ HB)); replace HO_5 := M_ (re_ HO_5 ho20 hb); replace HO541 := M_ (re_ HO541 ho20 hb); replace BK536 := M_ (kb_ BK536 hb); replace BK538 := M_ (kb_ BK538 hb); replace HB := M_ (bS_ HB hb);clear hb ho20;refine hK.out _ _ ⟨bc0_ BK538, bc1_ BK538, bc2_ BK538⟩ (fun hHeld => ?_);clear hK K;refine nM_ (some 20) ?_;refine one_ (i := 2) (N := some 18) #[true, true, true, true, true, false, false] rfl rfl (by kernel_rfl) (by decide) (fun K hK => ?_);refine Kd.R_append_rows_step k80 (w0 := w) w.heap.size (by rfl) (.tmp 16) (.tmp 17) 48 80 (.agg #[(.int .i64 0), (.int .i64 0), (.int .i64 0)]) 24 rfl Try.underlying48 info80 rfl (by decide) (by omega) v540 y539 x5_1 _ _ _ (fun k_ => some k_ ≠ (.slice Ao14 x5_1.length co14 : Value).ownBlock ∧ some k_ ≠ (v546 : Value).ownBlock ∧ k_ ≠ gb538) (fun _ => False) rfl rfl ?aO ?aR (fun _ _ h => h) (fun _ h => h.elim) ?aF ?aB ?aS ?aL ?_
           (case aR => exact cU_ (Kd.R_reads' HO_5.out).2.2)
           (case aB => exact (bU_ HB))
           (case aF => exact (fun k_ hk => ⟨Kd.fresh' (rl_ HO_5) k_ hk, Kd.fresh' (rl_ HO547) k_ hk, Kd.freshB (kU_ BK538) k_ hk⟩))
           (case aO => exact (rU_ (rm_ HO541.out (fun _ hk => ⟨hk.1.1.2, ⟨hk.2, hk.1.2⟩⟩))))
           (case aS => exact (bZ_ HB))
           (case aL => have := LMc7.out; omega)
           intro v543 w21 ho hb hg hat
           rw [← Ny542.out] at ho
           replace HO_5 := M_ (Kd.R_after (ok := (fun k_ => some k_ ≠ (v546 : Value).ownBlock ∧ k_ ≠ gb538)) (rU_ (rm_ HO_5.out (fun _ hk => ⟨⟨hk.2, hk.1.1⟩, hk.1.2⟩))) hg hat); replace BK536 := M_ (kg_ BK536 hg (Kd.R_ne HO541.out BK536.out (by decide))); replace BK538 := M_ (kg_ BK538 hg (Kd.R_away HO541.out (fun _ hk => hk.1.2))); replace HO547 := M_ (Kd.R_after (ok := (fun k_ => some k_ ≠ (.slice Ao14 x5_1.length co14 : Value).ownBlock ∧ k_ ≠ gb538)) (rU_ (rm_ HO547.out (fun _ hk => ⟨⟨hk.1.1.2, hk.2⟩, hk.1.2⟩))) hg hat); replace HB := M_ (hb); have HO544 := M_ (ho); clear HO541;clear ho hb hg hat;refine hK.out _ _ ⟨bc0_ BK538, bc1_ BK538, bc2_ BK538⟩ (fun hHeld => ?_);clear hK K;refine nM_ (some 18) ?_;exact norm_ (by simp only [putAll, Act.put, la_, lb_, lc_]) (hCont (v540, v543, v546) _ ⟨hHeld, (rU_ (rm_ HO544.out (fun _ hk => ⟨hk.2.1, ⟨hk.1, hk.2.2⟩⟩))), (rU_ (rm_ HO547.out (fun _ hk => ⟨hk.2, ⟨hk.1.1, hk.1.2⟩⟩))), (rU_ (rm_ HO_5.out (fun _ hk => ⟨hk.2, ⟨hk.1.1, hk.1.2⟩⟩))), (kU_ BK536), (kU_ BK538), (bU_ HB)⟩)
         ·skip
          refine ls_ k80 80 (N := 20) (([(⟨(rd_T80 l1 x12_1).f0, (rd_T80 l1 x12_1).f1, (rd_T80 l1 x12_1).f2⟩ : S80)] : List (S80))) [.int .i64 ((rd_T80 l1 x12_1).f0), .int .i64 ((rd_T80 l1 x12_1).f1), .int .i64 ((rd_T80 l1 x12_1).f2)] ?hp ?_; (case hp => exact (Reps.c3 (show Kd.M k80 _ _ _ (⟨(rd_T80 l1 x12_1).f0, (rd_T80 l1 x12_1).f1, (rd_T80 l1 x12_1).f2⟩ : S80) [.int .i64 ((rd_T80 l1 x12_1).f0), .int .i64 ((rd_T80 l1 x12_1).f1), .int .i64 ((rd_T80 l1 x12_1).f2)] from (k80_mkM _ _ _ (⟨(rd_T80 l1 x12_1).f0, (rd_T80 l1 x12_1).f1, (rd_T80 l1 x12_1).f2⟩ : S80) )) (Reps.none _ _)));intro v546 w17 ho18 hb hg_ hnew_;clear hg_ hnew_;replace ho18 := rN_ Ny545 ho18;have HO547 := M_ (Kd.R_lower (Kd.R_newB (Kd.R_new' ho18 (rl_ HO_5)) (kU_ BK538)) (bZ_ HB)); replace HO_5 := M_ (re_ HO_5 ho18 hb); replace BK536 := M_ (kb_ BK536 hb); replace BK538 := M_ (kb_ BK538 hb); replace HB := M_ (bS_ HB hb);clear hb ho18;refine hK.out _ _ ⟨bc0_ BK538, bc1_ BK538, bc2_ BK538⟩ (fun hHeld => ?_);clear hK K;refine nM_ (some 20) ?_;refine one_ (i := 0) (N := some 16) #[true, true, false, true, true, false, false] rfl rfl (by kernel_rfl) (by decide) (fun K hK => ?_);refine ls_ k80 80 (N := 16) (([] : List (S80))) [] (Reps.none _ _) ?_;intro v540 w19 ho20 hb hg_ hnew_;clear hg_ hnew_;replace ho20 := rN_ Ny539 ho20;have HO541 := M_ (Kd.R_lower (Kd.R_newB (Kd.R_new' (Kd.R_new' ho20 (rl_ HO_5)) (rl_ HO547)) (kU_ BK538)) (bZ_ HB)); replace HO_5 := M_ (re_ HO_5 ho20 hb); replace HO547 := M_ (re_ HO547 ho20 hb); replace BK536 := M_ (kb_ BK536 hb); replace BK538 := M_ (kb_ BK538 hb); replace HB := M_ (bS_ HB hb);clear hb ho20;refine hK.out _ _ ⟨bc0_ BK538, bc1_ BK538, bc2_ BK538⟩ (fun hHeld => ?_);clear hK K;refine nM_ (some 16) ?_;refine one_ (i := 2) (N := some 18) #[true, true, true, true, true, false, false] rfl rfl (by kernel_rfl) (by decide) (fun K hK => ?_);refine Kd.R_append_rows_step k80 (w0 := w) w.heap.size (by rfl) (.tmp 16) (.tmp 17) 48 80 (.agg #[(.int .i64 0), (.int .i64 0), (.int .i64 0)]) 24 rfl Try.underlying48 info80 rfl (by decide) (by omega) v540 y539 x5_1 _ _ _ (fun k_ => some k_ ≠ (.slice Ao14 x5_1.length co14 : Value).ownBlock ∧ some k_ ≠ (v546 : Value).ownBlock ∧ k_ ≠ gb538) (fun _ => False) rfl rfl ?aO ?aR (fun _ _ h => h) (fun _ h => h.elim) ?aF ?aB ?aS ?aL ?_
          (case aR => exact cU_ (Kd.R_reads' HO_5.out).2.2)
          (case aB => exact (bU_ HB))
          (case aF => exact (fun k_ hk => ⟨Kd.fresh' (rl_ HO_5) k_ hk, Kd.fresh' (rl_ HO547) k_ hk, Kd.freshB (kU_ BK538) k_ hk⟩))
          (case aO => exact (rU_ (rm_ HO541.out (fun _ hk => ⟨hk.1.1.2, ⟨hk.1.2, hk.2⟩⟩))))
          (case aS => exact (bZ_ HB))
          (case aL => have := LMc7.out; omega)
          intro v543 w21 ho hb hg hat
          rw [← Ny542.out] at ho
          replace HO_5 := M_ (Kd.R_after (ok := (fun k_ => some k_ ≠ (v546 : Value).ownBlock ∧ k_ ≠ gb538)) (rU_ (rm_ HO_5.out (fun _ hk => ⟨⟨hk.1.2, hk.1.1⟩, hk.2⟩))) hg hat); replace BK536 := M_ (kg_ BK536 hg (Kd.R_ne HO541.out BK536.out (by decide))); replace BK538 := M_ (kg_ BK538 hg (Kd.R_away HO541.out (fun _ hk => hk.2))); replace HO547 := M_ (Kd.R_after (ok := (fun k_ => some k_ ≠ (.slice Ao14 x5_1.length co14 : Value).ownBlock ∧ k_ ≠ gb538)) (rU_ (rm_ HO547.out (fun _ hk => ⟨⟨hk.1.1.2, hk.1.2⟩, hk.2⟩))) hg hat); replace HB := M_ (hb); have HO544 := M_ (ho); clear HO541;clear ho hb hg hat;refine hK.out _ _ ⟨bc0_ BK538, bc1_ BK538, bc2_ BK538⟩ (fun hHeld => ?_);clear hK K;refine nM_ (some 18) ?_;exact norm_ (by simp only [putAll, Act.put, la_, lb_, lc_]) (hCont (v540, v543, v546) _ ⟨hHeld, (rU_ (rm_ HO544.out (fun _ hk => ⟨hk.2.1, ⟨hk.1, hk.2.2⟩⟩))), (rU_ (rm_ HO547.out (fun _ hk => ⟨hk.2, ⟨hk.1.1, hk.1.2⟩⟩))), (rU_ (rm_ HO_5.out (fun _ hk => ⟨hk.2, ⟨hk.1.1, hk.1.2⟩⟩))), (kU_ BK536), (kU_ BK538), (bU_ HB)⟩)
        rintro ⟨v540, v543, v546⟩ w22 ⟨hS_, h0_, h1_, h2_, h3_, h4_, h5_⟩
        have n0_ : Aside0 (Kd.R k80 80 w22 w.heap.size (fun k_ => some k_ ≠ (v546 : Value).ownBlock ∧ some k_ ≠ (.slice Ao14 x5_1.length co14 : Value).ownBlock ∧ k_ ≠ gb538) v543 y542) := ⟨h0_⟩
        have n1_ : Aside0 (Kd.R k80 80 w22 w.heap.size (fun k_ => some k_ ≠ (v543 : Value).ownBlock ∧ some k_ ≠ (.slice Ao14 x5_1.length co14 : Value).ownBlock ∧ k_ ≠ gb538) v546 y545) := ⟨h1_⟩
        have n2_ : Aside0 (Kd.R k80 80 w22 w.heap.size (fun k_ => some k_ ≠ (v543 : Value).ownBlock ∧ some k_ ≠ (v546 : Value).ownBlock ∧ k_ ≠ gb538) (.slice Ao14 x5_1.length co14) x5_1) := ⟨h2_⟩
        have n3_ : Aside0 (w22.heap[gb536]? = some (.cells #[.slice A0_0 l0_0.length c0_0, .int .i64 a0_1] 58 (0, 0))) := ⟨h3_⟩
        have n4_ : Aside0 (w22.heap[gb538]? = some (.cells #[.int .i64 ((rd_T80 l1 x12_1).f0), .int .i64 ((rd_T80 l1 x12_1).f1), .int .i64 ((rd_T80 l1 x12_1).f2)] 80 (0, 0))) := ⟨h4_⟩
        have n5_ : Aside0 (Below w.heap.size w w22) := ⟨h5_⟩
        clear HO_5;clear BK536;clear BK538;clear HB;clear h0_ h1_ h2_ h3_ h4_ h5_;have HO544 := n0_;have HO547 := n1_;have HO_5 := n2_;have BK536 := n3_;have BK538 := n4_;have HB := n5_;clear n0_ n1_ n2_ n3_ n4_ n5_
        have hHeld : w22.cell? ⟨gb538, 0, none⟩ = some (.int .i64 ((rd_T80 l1 x12_1).f0)) ∧ w22.cell? ⟨gb538, 1, none⟩ = some (.int .i64 ((rd_T80 l1 x12_1).f1)) ∧ w22.cell? ⟨gb538, 2, none⟩ = some (.int .i64 ((rd_T80 l1 x12_1).f2)) := hS_
        obtain ⟨Ao24, co24, eo24⟩ := Kd.R_slice HO547.out
        (first | subst eo24 | (injection eo24 with f1_ f2_ f3_; have f4_ := f1_.symm; have f5_ := f3_.symm; clear f1_ f2_ f3_; subst f4_; subst f5_))
        refine norm_ (a' := ?_) ?_ ?_;rotate_left
        ·simp only [putAll, Act.put, la_, lb_, lc_]
         rfl
        refine one_ (i := 5) (N := some 21) #[true, true, true, true, true, true, false] rfl rfl (by kernel_rfl) (by decide) (fun K hK => ?_);refine Kd.R_append_rows_step k80 (w0 := w) w.heap.size (by rfl) (.tmp 18) (.tmp 20) 48 80 (.agg #[(.int .i64 0), (.int .i64 0), (.int .i64 0)]) 24 rfl Try.underlying48 info80 rfl (by decide) (by omega) v543 y542 y545 _ _ _ (fun k_ => some k_ ≠ (.slice Ao14 x5_1.length co14 : Value).ownBlock ∧ some k_ ≠ (.slice Ao24 y545.length co24 : Value).ownBlock ∧ k_ ≠ gb538) (fun _ => False) rfl rfl ?aO ?aR (fun _ _ h => h) (fun _ h => h.elim) ?aF ?aB ?aS ?aL ?_
        (case aR => exact cU_ (Kd.R_reads' HO547.out).2.2)
        (case aB => exact (bU_ HB))
        (case aF => exact (fun k_ hk => ⟨Kd.fresh' (rl_ HO_5) k_ hk, Kd.fresh' (rl_ HO547) k_ hk, Kd.freshB (kU_ BK538) k_ hk⟩))
        (case aO => exact (rU_ (rm_ HO544.out (fun _ hk => ⟨hk.2.1, ⟨hk.1, hk.2.2⟩⟩))))
        (case aS => exact (bZ_ HB))
        (case aL => have := LMc8.out; omega)
        intro v549 w23 ho hb hg hat
        rw [← Ny548.out] at ho
        replace HO_5 := M_ (Kd.R_after (ok := (fun k_ => some k_ ≠ (.slice Ao24 y545.length co24 : Value).ownBlock ∧ k_ ≠ gb538)) (rU_ (rm_ HO_5.out (fun _ hk => ⟨⟨hk.2.1, hk.2.2⟩, hk.1⟩))) hg hat); replace BK536 := M_ (kg_ BK536 hg (Kd.R_ne HO544.out BK536.out (by decide))); replace BK538 := M_ (kg_ BK538 hg (Kd.R_away HO544.out (fun _ hk => hk.2.2))); replace HO547 := M_ (Kd.R_after (ok := (fun k_ => some k_ ≠ (.slice Ao14 x5_1.length co14 : Value).ownBlock ∧ k_ ≠ gb538)) (rU_ (rm_ HO547.out (fun _ hk => ⟨⟨hk.2.1, hk.2.2⟩, hk.1⟩))) hg hat); replace HB := M_ (hb); have HO550 := M_ (ho); clear HO544;clear ho hb hg hat;refine hK.out _ _ ⟨bc0_ BK538, bc1_ BK538, bc2_ BK538⟩ (fun hHeld => ?_);clear hK K;refine nM_ (some 21) ?_;refine pure_ (i := 6) (N := some 8) (v := ?_) (a' := ?_) #[true, true, true, true, true, true, true] rfl rfl (by kernel_rfl) (fun _ _ _ h => h) (Or.inl ⟨by rfl, ?_⟩) ?_ ?_;rotate_left
        ·intro w'
         go_simp;with_reducible rfl
        rotate_left
        ·simp only [Act.put, la_, lb_, lc_, i64_w, i32_w]
         rfl
        refine done_ (by kernel_rfl) ?_;obtain ⟨Ao25, co25, eo25⟩ := Kd.R_slice HO550.out;subst eo25
        go_upto_region 7 with (first | ((with_reducible refine gc_ 131 ?_); refine gM_ (some 25) Try.func131 #[.slice Ao25 y548.length co25, .int .i64 (x5_1.length : Int)] ?_; (with_reducible refine (spec_inLast.calls k1 _ _ y548 (x5_1.length : Int) t551 _ ?side1 ?side2 A9.out).mono ?_); (case side1 => exact cU_ (Kd.R_reads' HO550.out).2.2); (case side2 => exact (Kd.R_reads' HO550.out).2.1); rintro e w26 ⟨rfl, hb⟩; refine ⟨_, rfl, ?_⟩; replace HO_5 := M_ (rB_ HO_5 hb); replace HO547 := M_ (rB_ HO547 hb); replace HO550 := M_ (rB_ HO550 hb); replace BK536 := M_ (kb_ BK536 hb); replace BK538 := M_ (kb_ BK538 hb); replace HB := M_ (bS_ HB hb); clear hb))
        (try simp only [Act.put, la_, lb_, lc_])
        go_cut [47] (fun v47 wc => ∃ (kq : Nat) (x47_9 : Bool), v47 = .bool x47_9 ∧ Aside0 (spec_inPart.j1 kq x5_1 y548 l1 (l1.length : Int) x12_1 x47_9 l0_0 a0_1 = some r) ∧ Aside0 (kq ≤ k1) ∧ Aside0 (Kd.R k80 80 wc w.heap.size (fun k_ => some k_ ≠ ((.slice Ao25 y548.length co25) : Value).ownBlock ∧ k_ ≠ gb538) (.slice Ao14 x5_1.length co14) x5_1) ∧ Aside0 (Kd.R k80 80 wc w.heap.size (fun k_ => some k_ ≠ ((.slice Ao14 x5_1.length co14) : Value).ownBlock ∧ k_ ≠ gb538) (.slice Ao25 y548.length co25) y548) ∧ Aside0 (wc.heap[gb536]? = some (.cells #[(.slice A0_0 l0_0.length c0_0), .int .i64 a0_1] 58 (0, 0))) ∧ Aside0 (wc.heap[gb538]? = some (.cells #[.int .i64 ((rd_T80 l1 x12_1).f0), .int .i64 ((rd_T80 l1 x12_1).f1), .int .i64 ((rd_T80 l1 x12_1).f2)] 80 (0, 0))) ∧ Aside0 (Below w.heap.size w wc))
        case first =>
         have H := HC10.out;clear HC10;replace H := Option.bind_eq_some_iff.mp H;obtain ⟨t552, A270, H⟩ := H;(try dsimp only at H);have A27 := M_ A270;clear A270
         by_cases c28 : t552 ≥ 0
         ·rw [if_pos c28] at H
          have c28b0 : decide (0 ≤ t552) = true := decide_eq_true c28
          clear c28
          (first | rw [c28b0] | (simp only [i64_w, i32_w]; rw [c28b0]) | skip)
          by_cases c29 : t551 < 0
          ·rw [if_pos c29] at H
           have c29b0 : decide (t551 < 0) = true := decide_eq_true c29
           clear c29
           have H' := M_ H
           clear H
           try go_wp2
           replace HO_5 := M_ (rd_ HO_5.out); replace HO547 := M_ (rd_ HO547.out); replace HO550 := M_ (rd_ HO550.out); replace BK536 := M_ (kd_ BK536.out); replace BK538 := M_ (kd_ BK538.out); replace HB := M_ (b1_ HB.out);refine start_ (n := 22) (S := fun w' => w'.cell? ⟨gb536, 0, none⟩ = some (.slice A0_0 l0_0.length c0_0) ∧ w'.cell? ⟨gb536, 1, none⟩ = some (.int .i64 a0_1) ∧ w'.cell? ⟨gb538, 0, none⟩ = some (.int .i64 ((rd_T80 l1 x12_1).f0)) ∧ w'.cell? ⟨gb538, 1, none⟩ = some (.int .i64 ((rd_T80 l1 x12_1).f1)) ∧ w'.cell? ⟨gb538, 2, none⟩ = some (.int .i64 ((rd_T80 l1 x12_1).f2))) (ds := []) #[F,F,F,F,F,F,F,F,F,F,F,F,F,F,F,F,F,F,F,F,F,F] (by kernel_rfl) rfl rfl ⟨bc0_ BK536, bc1_ BK536, bc0_ BK538, bc1_ BK538, bc2_ BK538⟩ (fun hHeld => ?_); refine with_tabW spec_inPart.tab7 spec_inPart.bits7 (fun HT_ HW_ => ?_);generalize w26.drew = w30 at HO_5 HO547 HO550 BK536 BK538 HB hHeld ⊢;refine pR_ (i := 1) (N := some 27) #[F,T,F,F,F,F,F,F,F,F,F,F,F,F,F,F,F,F,F,F,F,F] ?_;refine take_ (i := 0) (N := some 26) (v := ?_) (a' := ?_) #[T,T,F,F,F,F,F,F,F,F,F,F,F,F,F,F,F,F,F,F,F,F] rfl rfl (take_ofW HT_.out HW_.out (by kernel_rfl)) (fun _ _ _ h => h) (Or.inl ⟨by rfl, ?_⟩) hHeld ?_ ?_;rotate_left
           ·rintro w' ⟨s0, s1, s2, s3, s4⟩
            go_simp;with_reducible rfl
           rotate_left
           ·simp only [Act.put, la_, lb_, lc_, i64_w, i32_w]
            rfl
           refine take_ (i := 2) (N := some 28) (v := ?_) (a' := ?_) #[T,T,T,F,F,F,F,F,F,F,F,F,F,F,F,F,F,F,F,F,F,F] rfl rfl (take_ofW HT_.out HW_.out (by kernel_rfl)) (fun _ _ _ h => h) (Or.inl ⟨by rfl, ?_⟩) hHeld ?_ ?_;rotate_left
           ·rintro w' ⟨s0, s1, s2, s3, s4⟩
            go_simp;with_reducible rfl
           rotate_left
           ·simp only [Act.put, la_, lb_, lc_, i64_w, i32_w]
            rfl
           refine one_ (i := 3) (N := some 29) #[T,T,T,T,F,F,F,F,F,F,F,F,F,F,F,F,F,F,F,F,F,F] rfl rfl (one_of HT_.out (by kernel_rfl)) (by decide) (fun K hK => ?_);refine gS_ Try.func97 #[.agg #[.slice A0_0 l0_0.length c0_0, .int .i64 a0_1], .int .i64 ((rd_T80 l1 x12_1).f0)] ?_
           with_reducible refine (spec_inTrack.calls k1 _ _ l0_0 a0_1 ((rd_T80 l1 x12_1).f0) t552 _ ?side1 ?side2 A27.out).mono ?_
           (case side1 => exact cU_ (Kd.C_below HR0_0.out HB.out))
           (case side2 => exact HC0_0.out)
           rintro e w31 ⟨rfl, hb⟩;refine ⟨_, rfl, ?_⟩;replace HO_5 := M_ (rB_ HO_5 hb); replace HO547 := M_ (rB_ HO547 hb); replace HO550 := M_ (rB_ HO550 hb); replace BK536 := M_ (kb_ BK536 hb); replace BK538 := M_ (kb_ BK538 hb); replace HB := M_ (bS_ HB hb);clear hb;refine hK.out _ _ ⟨bc0_ BK536, bc1_ BK536, bc0_ BK538, bc1_ BK538, bc2_ BK538⟩ (fun hHeld => ?_);clear hK K;refine nM_ (some 29) ?_;refine pR_ (i := 4) (N := some 30) #[T,T,T,T,T,F,F,F,F,F,F,F,F,F,F,F,F,F,F,F,F,F] ?_;refine pR_ (i := 5) (N := some 31) #[T,T,T,T,T,T,F,F,F,F,F,F,F,F,F,F,F,F,F,F,F,F] ?_;refine pR_ (i := 6) (N := some 32) #[T,T,T,T,T,T,T,F,F,F,F,F,F,F,F,F,F,F,F,F,F,F] ?_;refine pR_ (i := 7) (N := some 33) #[T,T,T,T,T,T,T,T,F,F,F,F,F,F,F,F,F,F,F,F,F,F] ?_;refine pR_ (i := 8) (N := some 34) #[T,T,T,T,T,T,T,T,T,F,F,F,F,F,F,F,F,F,F,F,F,F] ?_;refine pV_ (i := 9) (N := some 35) #[T,T,T,T,T,T,T,T,T,T,F,F,F,F,F,F,F,F,F,F,F,F] ?_;refine pV_ (i := 10) (N := some 36) #[T,T,T,T,T,T,T,T,T,T,T,F,F,F,F,F,F,F,F,F,F,F] ?_;refine pV_ (i := 11) (N := some 37) #[T,T,T,T,T,T,T,T,T,T,T,T,F,F,F,F,F,F,F,F,F,F] ?_;refine pV_ (i := 12) (N := some 38) #[T,T,T,T,T,T,T,T,T,T,T,T,T,F,F,F,F,F,F,F,F,F] ?_;refine pV_ (i := 13) (N := some 39) #[T,T,T,T,T,T,T,T,T,T,T,T,T,T,F,F,F,F,F,F,F,F] ?_;refine pV_ (i := 14) (N := some 40) #[T,T,T,T,T,T,T,T,T,T,T,T,T,T,T,F,F,F,F,F,F,F] ?_;refine pV_ (i := 15) (N := some 41) #[T,T,T,T,T,T,T,T,T,T,T,T,T,T,T,T,F,F,F,F,F,F] ?_;refine pV_ (i := 16) (N := some 42) #[T,T,T,T,T,T,T,T,T,T,T,T,T,T,T,T,T,F,F,F,F,F] ?_;refine pV_ (i := 17) (N := some 43) #[T,T,T,T,T,T,T,T,T,T,T,T,T,T,T,T,T,T,F,F,F,F] ?_;refine pV_ (i := 18) (N := some 44) #[T,T,T,T,T,T,T,T,T,T,T,T,T,T,T,T,T,T,T,F,F,F] ?_;refine pV_ (i := 19) (N := some 45) #[T,T,T,T,T,T,T,T,T,T,T,T,T,T,T,T,T,T,T,T,F,F] ?_;refine pR_ (i := 20) (N := some 46) #[T,T,T,T,T,T,T,T,T,T,T,T,T,T,T,T,T,T,T,T,T,F] ?_;refine pR_ (i := 21) (N := some 47) #[T,T,T,T,T,T,T,T,T,T,T,T,T,T,T,T,T,T,T,T,T,T] ?_;refine done_ (done_of HT_.out (by kernel_rfl)) ?_
           try go_wp2
           go_meet
           case rel => exact ⟨_, (true), eD_, H', ⟨by have := HK1.out; first | omega | exact Nat.le_refl _⟩, ⟨by (with_reducible repeat (first | apply ra_ | apply rn_ | apply rd_)); first | exact rm_ HO_5.out (fun _ hk => ⟨hk.2, hk.1.2⟩) | exact rm_ HO_5.out (fun _ hk => by refine ⟨?_, ?_⟩ <;> (first | exact hk.2 | exact hk.2.1 | exact hk.2.2 | exact hk.1.2 | exact hk.1.2.1 | exact hk.1.2.2 | exact hk.1.1.2 | exact hk.1.1.2.1 | exact hk.1.1.2.2 | exact hk.1.1.1.2 | exact hk.1.1.1.2.1 | exact hk.1.1.1.2.2 | exact hk.1.1.1.1.2 | exact hk.1.1.1.1.2.1 | exact hk.1.1.1.1.2.2 | exact hk | exact hk.1 | exact hk.1.1 | exact hk.1.1.1 | exact hk.1.1.1.1 | exact hk.1.1.1.1.1))⟩, ⟨by (with_reducible repeat (first | apply ra_ | apply rn_ | apply rd_)); first | exact rm_ HO550.out (fun _ hk => ⟨hk.1, hk.2.2⟩) | exact rm_ HO550.out (fun _ hk => by refine ⟨?_, ?_⟩ <;> (first | exact hk.2 | exact hk.2.1 | exact hk.2.2 | exact hk.1.2 | exact hk.1.2.1 | exact hk.1.2.2 | exact hk.1.1.2 | exact hk.1.1.2.1 | exact hk.1.1.2.2 | exact hk.1.1.1.2 | exact hk.1.1.1.2.1 | exact hk.1.1.1.2.2 | exact hk.1.1.1.1.2 | exact hk.1.1.1.1.2.1 | exact hk.1.1.1.1.2.2 | exact hk | exact hk.1 | exact hk.1.1 | exact hk.1.1.1 | exact hk.1.1.1.1 | exact hk.1.1.1.1.1))⟩, ⟨kU_ BK536⟩, ⟨kU_ BK538⟩, ⟨bU_ HB⟩⟩
          ·rw [if_neg c29] at H
           have c29b0 : decide (t551 < 0) = false := decide_eq_false c29
           clear c29
           by_cases c32 : 0 ≤ t551
           ·rw [if_pos c32] at H
            have c32b0 : decide (0 ≤ t551) = true := decide_eq_true c32
            clear c32
            by_cases c33 : t551 < (y548.length : Int)
            ·rw [if_pos c33] at H
             have c33b0 : decide (t551 < (y548.length : Int)) = true := decide_eq_true c33
             clear c33
             have H' := M_ H
             clear H
             try go_wp2
             replace HO_5 := M_ (rd_ HO_5.out); replace HO547 := M_ (rd_ HO547.out); replace HO550 := M_ (rd_ HO550.out); replace BK536 := M_ (kd_ BK536.out); replace BK538 := M_ (kd_ BK538.out); replace HB := M_ (b1_ HB.out)
             have p553 : 0 ≤ (t551 : Int) := dT_
             have q553 : t551 < (y548.length : Int) := dT_
             obtain ⟨ad553, e553, hx553_0, hx553_1, hx553_2⟩ := at_T80 (Kd.R_reads' HO550.out).2.2 t551 p553 q553;cases e553;replace p553 := eq_true p553;replace q553 := eq_true q553;refine start_ (n := 22) (S := fun w' => w'.cell? ⟨gb536, 0, none⟩ = some (.slice A0_0 l0_0.length c0_0) ∧ w'.cell? ⟨gb536, 1, none⟩ = some (.int .i64 a0_1) ∧ w'.cell? ⟨gb538, 0, none⟩ = some (.int .i64 ((rd_T80 l1 x12_1).f0)) ∧ w'.cell? ⟨gb538, 1, none⟩ = some (.int .i64 ((rd_T80 l1 x12_1).f1)) ∧ w'.cell? ⟨gb538, 2, none⟩ = some (.int .i64 ((rd_T80 l1 x12_1).f2)) ∧ w'.cell? (ad553.add ((t551).toNat * 3)) = some (.int .i64 ((rd_T80 y548 t551).f0)) ∧ w'.cell? ⟨(ad553.add ((t551).toNat * 3)).block, (ad553.add ((t551).toNat * 3)).off + 1, none⟩ = some (.int .i64 ((rd_T80 y548 t551).f1)) ∧ w'.cell? ⟨(ad553.add ((t551).toNat * 3)).block, (ad553.add ((t551).toNat * 3)).off + 2, none⟩ = some (.int .i64 ((rd_T80 y548 t551).f2))) (ds := []) #[F,F,F,F,F,F,F,F,F,F,F,F,F,F,F,F,F,F,F,F,F,F] (by kernel_rfl) rfl rfl ⟨bc0_ BK536, bc1_ BK536, bc0_ BK538, bc1_ BK538, bc2_ BK538, hx553_0, hx553_1, hx553_2⟩ (fun hHeld => ?_); refine with_tabW spec_inPart.tab7 spec_inPart.bits7 (fun HT_ HW_ => ?_);generalize w26.drew = w34 at HO_5 HO547 HO550 BK536 BK538 HB hx553_0 hx553_1 hx553_2 hHeld ⊢;refine pR_ (i := 1) (N := some 27) #[F,T,F,F,F,F,F,F,F,F,F,F,F,F,F,F,F,F,F,F,F,F] ?_;refine take_ (i := 0) (N := some 26) (v := ?_) (a' := ?_) #[T,T,F,F,F,F,F,F,F,F,F,F,F,F,F,F,F,F,F,F,F,F] rfl rfl (take_ofW HT_.out HW_.out (by kernel_rfl)) (fun _ _ _ h => h) (Or.inl ⟨by rfl, ?_⟩) hHeld ?_ ?_;rotate_left
             ·rintro w' ⟨s0, s1, s2, s3, s4, s5, s6, s7⟩
              go_simp;with_reducible rfl
             rotate_left
             ·simp only [Act.put, la_, lb_, lc_, i64_w, i32_w]
              rfl
             refine take_ (i := 2) (N := some 28) (v := ?_) (a' := ?_) #[T,T,T,F,F,F,F,F,F,F,F,F,F,F,F,F,F,F,F,F,F,F] rfl rfl (take_ofW HT_.out HW_.out (by kernel_rfl)) (fun _ _ _ h => h) (Or.inl ⟨by rfl, ?_⟩) hHeld ?_ ?_;rotate_left
             ·rintro w' ⟨s0, s1, s2, s3, s4, s5, s6, s7⟩
              go_simp;with_reducible rfl
             rotate_left
             ·simp only [Act.put, la_, lb_, lc_, i64_w, i32_w]
              rfl
             refine one_ (i := 3) (N := some 29) #[T,T,T,T,F,F,F,F,F,F,F,F,F,F,F,F,F,F,F,F,F,F] rfl rfl (one_of HT_.out (by kernel_rfl)) (by decide) (fun K hK => ?_);refine gS_ Try.func97 #[.agg #[.slice A0_0 l0_0.length c0_0, .int .i64 a0_1], .int .i64 ((rd_T80 l1 x12_1).f0)] ?_
             with_reducible refine (spec_inTrack.calls k1 _ _ l0_0 a0_1 ((rd_T80 l1 x12_1).f0) t552 _ ?side1 ?side2 A27.out).mono ?_
             (case side1 => exact cU_ (Kd.C_below HR0_0.out HB.out))
             (case side2 => exact HC0_0.out)
             rintro e w35 ⟨rfl, hb⟩;have HS5_ := (hb.cell (World.block_lt_of_cell? _ _ (hHeld.2.2.2.2.2.1))).trans (hHeld.2.2.2.2.2.1);have HS6_ := (hb.cell (World.block_lt_of_cell? _ _ (hHeld.2.2.2.2.2.2.1))).trans (hHeld.2.2.2.2.2.2.1);have HS7_ := (hb.cell (World.block_lt_of_cell? _ _ (hHeld.2.2.2.2.2.2.2))).trans (hHeld.2.2.2.2.2.2.2);refine ⟨_, rfl, ?_⟩;replace HO_5 := M_ (rB_ HO_5 hb); replace HO547 := M_ (rB_ HO547 hb); replace HO550 := M_ (rB_ HO550 hb); replace BK536 := M_ (kb_ BK536 hb); replace BK538 := M_ (kb_ BK538 hb); replace HB := M_ (bS_ HB hb);clear hb;refine hK.out _ _ ⟨bc0_ BK536, bc1_ BK536, bc0_ BK538, bc1_ BK538, bc2_ BK538, HS5_, HS6_, HS7_⟩ (fun hHeld => ?_);clear hK K;refine nM_ (some 29) ?_;refine pR_ (i := 4) (N := some 30) #[T,T,T,T,T,F,F,F,F,F,F,F,F,F,F,F,F,F,F,F,F,F] ?_;refine pR_ (i := 5) (N := some 31) #[T,T,T,T,T,T,F,F,F,F,F,F,F,F,F,F,F,F,F,F,F,F] ?_;refine pR_ (i := 6) (N := some 32) #[T,T,T,T,T,T,T,F,F,F,F,F,F,F,F,F,F,F,F,F,F,F] ?_;refine pR_ (i := 7) (N := some 33) #[T,T,T,T,T,T,T,T,F,F,F,F,F,F,F,F,F,F,F,F,F,F] ?_;refine pR_ (i := 8) (N := some 34) #[T,T,T,T,T,T,T,T,T,F,F,F,F,F,F,F,F,F,F,F,F,F] ?_;refine pR_ (i := 9) (N := some 35) #[T,T,T,T,T,T,T,T,T,T,F,F,F,F,F,F,F,F,F,F,F,F] ?_;refine pR_ (i := 11) (N := some 37) #[T,T,T,T,T,T,T,T,T,T,F,T,F,F,F,F,F,F,F,F,F,F] ?_;refine pR_ (i := 12) (N := some 38) #[T,T,T,T,T,T,T,T,T,T,F,T,T,F,F,F,F,F,F,F,F,F] ?_;refine pR_ (i := 13) (N := some 39) #[T,T,T,T,T,T,T,T,T,T,F,T,T,T,F,F,F,F,F,F,F,F] ?_;refine pR_ (i := 14) (N := some 40) #[T,T,T,T,T,T,T,T,T,T,F,T,T,T,T,F,F,F,F,F,F,F] ?_;refine pR_ (i := 17) (N := some 43) #[T,T,T,T,T,T,T,T,T,T,F,T,T,T,T,F,F,T,F,F,F,F] ?_;refine take_ (i := 10) (N := some 36) (v := ?_) (a' := ?_) #[T,T,T,T,T,T,T,T,T,T,T,T,T,T,T,F,F,T,F,F,F,F] rfl rfl (take_ofW HT_.out HW_.out (by kernel_rfl)) (fun _ _ _ h => h) (Or.inl ⟨by rfl, ?_⟩) hHeld ?_ ?_;rotate_left
             ·rintro w' ⟨s0, s1, s2, s3, s4, s5, s6, s7⟩
              go_simp;with_reducible rfl
             rotate_left
             ·simp only [Act.put, la_, lb_, lc_, i64_w, i32_w]
              rfl
             refine take_ (i := 15) (N := some 41) (v := ?_) (a' := ?_) #[T,T,T,T,T,T,T,T,T,T,T,T,T,T,T,T,F,T,F,F,F,F] rfl rfl (take_ofW HT_.out HW_.out (by kernel_rfl)) (fun _ _ _ h => h) (Or.inl ⟨by rfl, ?_⟩) hHeld ?_ ?_;rotate_left
             ·rintro w' ⟨s0, s1, s2, s3, s4, s5, s6, s7⟩
              go_simp;with_reducible rfl
             rotate_left
             ·simp only [Act.put, la_, lb_, lc_, i64_w, i32_w]
              rfl
             refine pR_ (i := 16) (N := some 42) #[T,T,T,T,T,T,T,T,T,T,T,T,T,T,T,T,T,T,F,F,F,F] ?_;refine take_ (i := 18) (N := some 44) (v := ?_) (a' := ?_) #[T,T,T,T,T,T,T,T,T,T,T,T,T,T,T,T,T,T,T,F,F,F] rfl rfl (take_ofW HT_.out HW_.out (by kernel_rfl)) (fun _ _ _ h => h) (Or.inl ⟨by rfl, ?_⟩) hHeld ?_ ?_;rotate_left
             ·rintro w' ⟨s0, s1, s2, s3, s4, s5, s6, s7⟩
              go_simp;with_reducible rfl
             rotate_left
             ·simp only [Act.put, la_, lb_, lc_, i64_w, i32_w]
              rfl
             refine pR_ (i := 19) (N := some 45) #[T,T,T,T,T,T,T,T,T,T,T,T,T,T,T,T,T,T,T,T,F,F] ?_;refine pR_ (i := 20) (N := some 46) #[T,T,T,T,T,T,T,T,T,T,T,T,T,T,T,T,T,T,T,T,T,F] ?_;refine pR_ (i := 21) (N := some 47) #[T,T,T,T,T,T,T,T,T,T,T,T,T,T,T,T,T,T,T,T,T,T] ?_;refine done_ (done_of HT_.out (by kernel_rfl)) ?_
             try go_wp2
             go_meet
             case rel => exact ⟨_, (decide ((wrap64 (((rd_T80 l1 x12_1).f1) - ((rd_T80 y548 t551).f1))) ≥ a0_1)), eD_, H', ⟨by have := HK1.out; first | omega | exact Nat.le_refl _⟩, ⟨by (with_reducible repeat (first | apply ra_ | apply rn_ | apply rd_)); first | exact rm_ HO_5.out (fun _ hk => ⟨hk.2, hk.1.2⟩) | exact rm_ HO_5.out (fun _ hk => by refine ⟨?_, ?_⟩ <;> (first | exact hk.2 | exact hk.2.1 | exact hk.2.2 | exact hk.1.2 | exact hk.1.2.1 | exact hk.1.2.2 | exact hk.1.1.2 | exact hk.1.1.2.1 | exact hk.1.1.2.2 | exact hk.1.1.1.2 | exact hk.1.1.1.2.1 | exact hk.1.1.1.2.2 | exact hk.1.1.1.1.2 | exact hk.1.1.1.1.2.1 | exact hk.1.1.1.1.2.2 | exact hk | exact hk.1 | exact hk.1.1 | exact hk.1.1.1 | exact hk.1.1.1.1 | exact hk.1.1.1.1.1))⟩, ⟨by (with_reducible repeat (first | apply ra_ | apply rn_ | apply rd_)); first | exact rm_ HO550.out (fun _ hk => ⟨hk.1, hk.2.2⟩) | exact rm_ HO550.out (fun _ hk => by refine ⟨?_, ?_⟩ <;> (first | exact hk.2 | exact hk.2.1 | exact hk.2.2 | exact hk.1.2 | exact hk.1.2.1 | exact hk.1.2.2 | exact hk.1.1.2 | exact hk.1.1.2.1 | exact hk.1.1.2.2 | exact hk.1.1.1.2 | exact hk.1.1.1.2.1 | exact hk.1.1.1.2.2 | exact hk.1.1.1.1.2 | exact hk.1.1.1.1.2.1 | exact hk.1.1.1.1.2.2 | exact hk | exact hk.1 | exact hk.1.1 | exact hk.1.1.1 | exact hk.1.1.1.1 | exact hk.1.1.1.1.1))⟩, ⟨kU_ BK536⟩, ⟨kU_ BK538⟩, ⟨bU_ HB⟩⟩
            ·rw [if_neg c33] at H
             exact absurd H (by simp)
           ·rw [if_neg c32] at H
            exact absurd H (by simp)
         ·rw [if_neg c28] at H
          have c28b0 : decide (0 ≤ t552) = false := decide_eq_false c28
          clear c28
          (first | rw [c28b0] | (simp only [i64_w, i32_w]; rw [c28b0]) | skip)
          have H' := M_ H
          clear H
          try go_wp2
          replace HO_5 := M_ (rd_ HO_5.out); replace HO547 := M_ (rd_ HO547.out); replace HO550 := M_ (rd_ HO550.out); replace BK536 := M_ (kd_ BK536.out); replace BK538 := M_ (kd_ BK538.out); replace HB := M_ (b1_ HB.out);refine start_ (n := 22) (S := fun w' => w'.cell? ⟨gb536, 0, none⟩ = some (.slice A0_0 l0_0.length c0_0) ∧ w'.cell? ⟨gb536, 1, none⟩ = some (.int .i64 a0_1) ∧ w'.cell? ⟨gb538, 0, none⟩ = some (.int .i64 ((rd_T80 l1 x12_1).f0)) ∧ w'.cell? ⟨gb538, 1, none⟩ = some (.int .i64 ((rd_T80 l1 x12_1).f1)) ∧ w'.cell? ⟨gb538, 2, none⟩ = some (.int .i64 ((rd_T80 l1 x12_1).f2))) (ds := []) #[F,F,F,F,F,F,F,F,F,F,F,F,F,F,F,F,F,F,F,F,F,F] (by kernel_rfl) rfl rfl ⟨bc0_ BK536, bc1_ BK536, bc0_ BK538, bc1_ BK538, bc2_ BK538⟩ (fun hHeld => ?_); refine with_tabW spec_inPart.tab7 spec_inPart.bits7 (fun HT_ HW_ => ?_);generalize w26.drew = w36 at HO_5 HO547 HO550 BK536 BK538 HB hHeld ⊢;refine pR_ (i := 1) (N := some 27) #[F,T,F,F,F,F,F,F,F,F,F,F,F,F,F,F,F,F,F,F,F,F] ?_;refine take_ (i := 0) (N := some 26) (v := ?_) (a' := ?_) #[T,T,F,F,F,F,F,F,F,F,F,F,F,F,F,F,F,F,F,F,F,F] rfl rfl (take_ofW HT_.out HW_.out (by kernel_rfl)) (fun _ _ _ h => h) (Or.inl ⟨by rfl, ?_⟩) hHeld ?_ ?_;rotate_left
          ·rintro w' ⟨s0, s1, s2, s3, s4⟩
           go_simp;with_reducible rfl
          rotate_left
          ·simp only [Act.put, la_, lb_, lc_, i64_w, i32_w]
           rfl
          refine take_ (i := 2) (N := some 28) (v := ?_) (a' := ?_) #[T,T,T,F,F,F,F,F,F,F,F,F,F,F,F,F,F,F,F,F,F,F] rfl rfl (take_ofW HT_.out HW_.out (by kernel_rfl)) (fun _ _ _ h => h) (Or.inl ⟨by rfl, ?_⟩) hHeld ?_ ?_;rotate_left
          ·rintro w' ⟨s0, s1, s2, s3, s4⟩
           go_simp;with_reducible rfl
          rotate_left
          ·simp only [Act.put, la_, lb_, lc_, i64_w, i32_w]
           rfl
          refine one_ (i := 3) (N := some 29) #[T,T,T,T,F,F,F,F,F,F,F,F,F,F,F,F,F,F,F,F,F,F] rfl rfl (one_of HT_.out (by kernel_rfl)) (by decide) (fun K hK => ?_);refine gS_ Try.func97 #[.agg #[.slice A0_0 l0_0.length c0_0, .int .i64 a0_1], .int .i64 ((rd_T80 l1 x12_1).f0)] ?_
          with_reducible refine (spec_inTrack.calls k1 _ _ l0_0 a0_1 ((rd_T80 l1 x12_1).f0) t552 _ ?side1 ?side2 A27.out).mono ?_
          (case side1 => exact cU_ (Kd.C_below HR0_0.out HB.out))
          (case side2 => exact HC0_0.out)
          rintro e w37 ⟨rfl, hb⟩;refine ⟨_, rfl, ?_⟩;replace HO_5 := M_ (rB_ HO_5 hb); replace HO547 := M_ (rB_ HO547 hb); replace HO550 := M_ (rB_ HO550 hb); replace BK536 := M_ (kb_ BK536 hb); replace BK538 := M_ (kb_ BK538 hb); replace HB := M_ (bS_ HB hb);clear hb;refine hK.out _ _ ⟨bc0_ BK536, bc1_ BK536, bc0_ BK538, bc1_ BK538, bc2_ BK538⟩ (fun hHeld => ?_);clear hK K;refine nM_ (some 29) ?_;refine pR_ (i := 4) (N := some 30) #[T,T,T,T,T,F,F,F,F,F,F,F,F,F,F,F,F,F,F,F,F,F] ?_;refine pR_ (i := 5) (N := some 31) #[T,T,T,T,T,T,F,F,F,F,F,F,F,F,F,F,F,F,F,F,F,F] ?_;refine pV_ (i := 6) (N := some 32) #[T,T,T,T,T,T,T,F,F,F,F,F,F,F,F,F,F,F,F,F,F,F] ?_;refine pV_ (i := 7) (N := some 33) #[T,T,T,T,T,T,T,T,F,F,F,F,F,F,F,F,F,F,F,F,F,F] ?_;refine pV_ (i := 8) (N := some 34) #[T,T,T,T,T,T,T,T,T,F,F,F,F,F,F,F,F,F,F,F,F,F] ?_;refine pV_ (i := 9) (N := some 35) #[T,T,T,T,T,T,T,T,T,T,F,F,F,F,F,F,F,F,F,F,F,F] ?_;refine pV_ (i := 10) (N := some 36) #[T,T,T,T,T,T,T,T,T,T,T,F,F,F,F,F,F,F,F,F,F,F] ?_;refine pV_ (i := 11) (N := some 37) #[T,T,T,T,T,T,T,T,T,T,T,T,F,F,F,F,F,F,F,F,F,F] ?_;refine pV_ (i := 12) (N := some 38) #[T,T,T,T,T,T,T,T,T,T,T,T,T,F,F,F,F,F,F,F,F,F] ?_;refine pV_ (i := 13) (N := some 39) #[T,T,T,T,T,T,T,T,T,T,T,T,T,T,F,F,F,F,F,F,F,F] ?_;refine pV_ (i := 14) (N := some 40) #[T,T,T,T,T,T,T,T,T,T,T,T,T,T,T,F,F,F,F,F,F,F] ?_;refine pV_ (i := 15) (N := some 41) #[T,T,T,T,T,T,T,T,T,T,T,T,T,T,T,T,F,F,F,F,F,F] ?_;refine pV_ (i := 16) (N := some 42) #[T,T,T,T,T,T,T,T,T,T,T,T,T,T,T,T,T,F,F,F,F,F] ?_;refine pV_ (i := 17) (N := some 43) #[T,T,T,T,T,T,T,T,T,T,T,T,T,T,T,T,T,T,F,F,F,F] ?_;refine pV_ (i := 18) (N := some 44) #[T,T,T,T,T,T,T,T,T,T,T,T,T,T,T,T,T,T,T,F,F,F] ?_;refine pV_ (i := 19) (N := some 45) #[T,T,T,T,T,T,T,T,T,T,T,T,T,T,T,T,T,T,T,T,F,F] ?_;refine pV_ (i := 20) (N := some 46) #[T,T,T,T,T,T,T,T,T,T,T,T,T,T,T,T,T,T,T,T,T,F] ?_;refine pR_ (i := 21) (N := some 47) #[T,T,T,T,T,T,T,T,T,T,T,T,T,T,T,T,T,T,T,T,T,T] ?_;refine done_ (done_of HT_.out (by kernel_rfl)) ?_
          try go_wp2
          go_meet
          case rel => exact ⟨_, (false), eD_, H', ⟨by have := HK1.out; first | omega | exact Nat.le_refl _⟩, ⟨by (with_reducible repeat (first | apply ra_ | apply rn_ | apply rd_)); first | exact rm_ HO_5.out (fun _ hk => ⟨hk.2, hk.1.2⟩) | exact rm_ HO_5.out (fun _ hk => by refine ⟨?_, ?_⟩ <;> (first | exact hk.2 | exact hk.2.1 | exact hk.2.2 | exact hk.1.2 | exact hk.1.2.1 | exact hk.1.2.2 | exact hk.1.1.2 | exact hk.1.1.2.1 | exact hk.1.1.2.2 | exact hk.1.1.1.2 | exact hk.1.1.1.2.1 | exact hk.1.1.1.2.2 | exact hk.1.1.1.1.2 | exact hk.1.1.1.1.2.1 | exact hk.1.1.1.1.2.2 | exact hk | exact hk.1 | exact hk.1.1 | exact hk.1.1.1 | exact hk.1.1.1.1 | exact hk.1.1.1.1.1))⟩, ⟨by (with_reducible repeat (first | apply ra_ | apply rn_ | apply rd_)); first | exact rm_ HO550.out (fun _ hk => ⟨hk.1, hk.2.2⟩) | exact rm_ HO550.out (fun _ hk => by refine ⟨?_, ?_⟩ <;> (first | exact hk.2 | exact hk.2.1 | exact hk.2.2 | exact hk.1.2 | exact hk.1.2.1 | exact hk.1.2.2 | exact hk.1.1.2 | exact hk.1.1.2.1 | exact hk.1.1.2.2 | exact hk.1.1.1.2 | exact hk.1.1.1.2.1 | exact hk.1.1.1.2.2 | exact hk.1.1.1.1.2 | exact hk.1.1.1.1.2.1 | exact hk.1.1.1.1.2.2 | exact hk | exact hk.1 | exact hk.1.1 | exact hk.1.1.1 | exact hk.1.1.1.1 | exact hk.1.1.1.1.1))⟩, ⟨kU_ BK536⟩, ⟨kU_ BK538⟩, ⟨bU_ HB⟩⟩
        case rest =>
         clear HC10;obtain ⟨kq, x47_9, rfl, HA, HJ9, HO_5, HO_8, BK536, BK538, HB⟩ := hcut
         cases kq with
         | zero => exact absurd HA.out (by simp [spec_inPart.j1])
         | succ kj9 =>
          have H := HA.out;clear HA;simp only [spec_inPart.j1] at H
          by_cases c38 : x47_9 = true
          ·subst c38
           rw [if_pos rfl] at H
           have H' := M_ H
           clear H
           go_wp2
           go_roundg kj9
           case measure => have := HK1.out; have := HJ9.out; omega
           case rel => exact ⟨(y548), (wrap64 (x12_1 + 1)), eD_, H', ⟨by have := HK1.out; have := HJ9.out; omega⟩, ⟨by (with_reducible repeat (first | apply ra_ | apply rn_ | apply rd_)); exact rm_ HO_8.out (fun _ hk => trivial)⟩, ⟨kU_ BK536⟩, ⟨bU_ HB⟩⟩
          ·replace c38 := Bool.eq_false_iff.mpr c38
           subst c38
           rw [if_neg (show ¬ (false = true) by decide)] at H
           have H' := M_ H
           clear H
           go_wp2
           go_roundg kj9
           case measure => have := HK1.out; have := HJ9.out; omega
           case rel => exact ⟨(x5_1), (wrap64 (x12_1 + 1)), eD_, H', ⟨by have := HK1.out; have := HJ9.out; omega⟩, ⟨by (with_reducible repeat (first | apply ra_ | apply rn_ | apply rd_)); exact rm_ HO_5.out (fun _ hk => trivial)⟩, ⟨kU_ BK536⟩, ⟨bU_ HB⟩⟩
       ·rw [if_neg c8] at H
        exact absurd H (by simp)
      ·rw [if_neg c7] at H
       exact absurd H (by simp)
     ·rw [if_neg c6] at H
      exact absurd H (by simp)
    ·rw [if_neg c5] at H
     exact absurd H (by simp)
   ·rw [if_neg c4] at H
    have c4b0 : decide (x12_1 < (l1.length : Int)) = false := decide_eq_false c4
    clear c4;obtain rfl := Option.some.inj H
    go_wp2
    go_ret
    exact ⟨_, eR_, rU_ HO_5.out, bU_ HB⟩
end Go.Proofs.Ytgeipgflhjakjaa.PFnPlayable
