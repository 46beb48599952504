-- by wip/xprint.py, over the kit's printer
import Derived.Test.YtjgpngeifgcidaaPFnExactPlayablePartx0
import Derived.Test.YtjgpngeifgcidaaPFnExactPlayablePartx4
namespace Go.Proofs.Ytjgpngeifgcidaa.PFnExactPlayablePart
open Go.RowKit Go.Proofs.YtjgpngeifgcidaaW.PrintWords Go.Proofs.YtjgpngeifgcidaaW.PrintLast Go.Proofs.YtjgpngeifgcidaaW.PrintMore
attribute [local go_sem] max2_int min2_int max_two min_two max_three min_three max_four min_four   -- for this text's walks alone
set_option linter.unusedVariables false
set_option linter.unusedSimpArgs false
private abbrev M_ {p : Prop} (h : p) : Aside0 p := Aside0.mk h
private abbrev la_ := @List.setIfInBounds_toArray
private abbrev lb_ := @List.set_cons_zero
private abbrev lc_ := @List.set_cons_succ
private abbrev bn_ := @pw_below_drewN
private abbrev b1_ := @below_drew1
private abbrev ba_ := @below_alloc
private abbrev bs_ := @below_set
private abbrev kn_ := @blk_drewN
private abbrev ka_ := @blk_alloc
private abbrev kd_ := @blk_drew
private abbrev rn_ := @Kd.R_drewN
private abbrev ra_ := @Kd.R_alloc
private abbrev rd_ := @Kd.R_drew
private abbrev rb_ := @Kd.R_below
private abbrev rm_ := @Kd.R_mono
private abbrev rt_ := @Kd.R_types

def spec_inPart.l0 : Nat → List (S92) → List (S92) → Int → Int → List Int → Int → Option ((List (S92)))
 | 0, _, _, _, _, _, _ => none
 | k + 1, x5, x10, x11, x12, x177000, x177001 => if x12 < x11 then (if 0 ≤ x12 then (if x12 < (x10.length : Int) then ((some (([] : List (S92)) : List (S92))).bind fun y179 => (if y179.length + x5.length < 5864062014805 then ((some (y179 ++ x5 : List (S92))).bind fun y182 => ((some (([(⟨(rd_T92 x10 x12).f0, (rd_T92 x10 x12).f1, (rd_T92 x10 x12).f2⟩ : S92)] : List (S92)) : List (S92))).bind fun y185 => (if y182.length + y185.length < 5864062014805 then ((some (y182 ++ y185 : List (S92))).bind fun y188 => ((spec_inLast.f k y188 (x5.length : Int)).bind fun t191 => ((spec_inTrack.f k x177000 x177001 ((rd_T92 x10 x12).f0)).bind fun t192 => (if t192 ≥ 0 then (if t191 < 0 then (spec_inPart.l0 k y188 x10 x11 (wrap64 (x12 + 1)) x177000 x177001) else (if 0 ≤ t191 then (if t191 < (y188.length : Int) then (if (wrap64 (((rd_T92 x10 x12).f1) - ((rd_T92 y188 t191).f1))) ≥ x177001 then (spec_inPart.l0 k y188 x10 x11 (wrap64 (x12 + 1)) x177000 x177001) else (spec_inPart.l0 k x5 x10 x11 (wrap64 (x12 + 1)) x177000 x177001)) else (none)) else (none))) else (spec_inPart.l0 k x5 x10 x11 (wrap64 (x12 + 1)) x177000 x177001))))) else (none)))) else (none))) else (none)) else (none)) else (some x5)
def spec_inPart.f (k : Nat) (l0_0 : List Int) (a0_1 : Int) (l1 : List (S92)) : Option ((List (S92))) := spec_inPart.l0 k ([] : List (S92)) l1 (l1.length : Int) 0 l0_0 a0_1
theorem spec_inPart.mono_l : ∀ k, (∀ y0 y1 y2 y3 y4 y5, LeO (spec_inPart.l0 k y0 y1 y2 y3 y4 y5) (spec_inPart.l0 (k + 1) y0 y1 y2 y3 y4 y5))
 | 0 => fun _ _ _ _ _ _ r h => by simp [spec_inPart.l0] at h
 | k + 1 => by
  have ih0 := spec_inPart.mono_l k
  ·intro y0 y1 y2 y3 y4 y5
   unfold spec_inPart.l0
   repeat' first
   | (with_reducible exact ih0 _ _ _ _ _ _)
   | (with_reducible exact spec_inLast.mono _ _ _)
   | (with_reducible exact spec_inTrack.mono _ _ _ _)
   | (with_reducible exact LeO.refl _)
   | (with_reducible exact LeO.none _)
   | (with_reducible refine LeO.ite ?_ ?_)
   | (with_reducible refine LeO.bind ?_ (fun _ => ?_))
   | exact ih0 _ _ _ _ _ _
   | exact spec_inLast.mono _ _ _
   | exact spec_inTrack.mono _ _ _ _
   | exact LeO.none _
   | refine LeO.ite ?_ ?_
   | refine LeO.bind ?_ (fun _ => ?_)
theorem spec_inPart.mono : ∀ a0 a1 a2 k, LeO (spec_inPart.f k a0 a1 a2) (spec_inPart.f (k + 1) a0 a1 a2) := by
 intro a0 a1 a2 k
 have ih0 := spec_inPart.mono_l k
 unfold spec_inPart.f
 repeat' first
   | (with_reducible exact ih0 _ _ _ _ _ _)
   | (with_reducible exact spec_inLast.mono _ _ _)
   | (with_reducible exact spec_inTrack.mono _ _ _ _)
   | (with_reducible exact LeO.refl _)
   | (with_reducible exact LeO.none _)
   | (with_reducible refine LeO.ite ?_ ?_)
   | (with_reducible refine LeO.bind ?_ (fun _ => ?_))
   | exact ih0 _ _ _ _ _ _
   | exact spec_inLast.mono _ _ _
   | exact spec_inTrack.mono _ _ _ _
   | exact LeO.none _
   | refine LeO.ite ?_ ?_
   | refine LeO.bind ?_ (fun _ => ?_)
def spec_inPart.T7 : Bool × List (List Nat × List Nat) := (true, [([], []), ([], []), ([1], [1]), ([0, 2], [0, 2]), ([3], [3]), ([4, 3], [4]), ([5], [5]), ([6, 5], [5, 6]), ([7, 5, 5], [5, 7]), ([8], [8]), ([9, 8], [8, 9]), ([8], [8]), ([8], [8]), ([11, 12, 8], [8, 11, 12]), ([13, 8], [8, 13]), ([14, 8], [8, 14]), ([10, 15, 8], [8, 10, 15]), ([8], [8]), ([17, 8], [8, 17]), ([16, 18, 8], [8, 16, 18]), ([8, 19, 5], [5, 8, 19]), ([5, 20], [5, 20])])
def spec_inPart.B7 : List Nat := [0, 0, 2, 7, 15, 31, 63, 127, 255, 511, 1023, 511, 511, 6655, 14847, 31231, 65535, 511, 131583, 524287, 1048575, 2097151]
theorem spec_inPart.tab7 : rtab .any (opsOf Try.f98 7) = spec_inPart.T7 := by kernel_rfl
theorem spec_inPart.bits7 : waitsOk spec_inPart.T7.2 spec_inPart.B7 = true := by kernel_rfl
set_option maxHeartbeats 8000000 in
set_option maxRecDepth 100000 in
theorem spec_inPart.calls (k : Nat) (A0_0 : Option Addr) (c0_0 : Nat) (l0_0 : List Int) (a0_1 : Int) (A1 : Option Addr) (c1 : Nat) (l1 : List (S92)) (r : List (S92)) (w : World) (hr0_0 : Kd.C (Kd.int .i64) w A0_0 l0_0.length l0_0) (hc0_0 : l0_0.length ≤ c0_0) (hr1 : Kd.C k92 w A1 l1.length l1) (hc1 : l1.length ≤ c1) (h : spec_inPart.f k l0_0 a0_1 l1 = some r) :
  Calls Try.prog 98 #[.agg #[.slice A0_0 l0_0.length c0_0, .int .i64 a0_1], .slice A1 l1.length c1] w fun e w' => ∃ v0_ : Value, e = .returned (v0_) ∧ Kd.R k92 92 w' w.heap.size (fun _ => True) v0_ r ∧ Below w.heap.size w w' := by
 have hu59 := Try.underlying59
 have hu92 := Try.underlying92
 have HR0_0 := M_ hr0_0
 have HC0_0 := M_ hc0_0
 clear hr0_0 hc0_0
 have HR1 := M_ hr1
 have HC1 := M_ hc1
 clear hr1 hc1
 have HB := M_ (Below.refl w.heap.size w)
 have H : (spec_inPart.l0 k ([] : List (S92)) l1 (l1.length : Int) 0 l0_0 a0_1) = some r := h
 clear h
 have H' := M_ H
 clear H
 go_enter Try.func98, Try.ntmps98
 go_wp2_with (first | ((with_reducible refine gate_dst (N := 2) rfl ?_); refine box_event ?hg (N := 2) ?hd (cs := #[.slice A0_0 l0_0.length c0_0, .int .i64 a0_1]) (t := 59) ?hr ?_; (case hd => rfl); (case hg => rfl); (case hr => first | (go_simp; done) | (go_simp; rfl)); intro gb176 hg w3 hbox hb; have n0_ := M_ (below_step (by repeat (first | (with_reducible first | exact HB.out | apply ba_ | apply bn_ | apply b1_) | exact HB.out)) hb); have n1_ := M_ (hbox); have n2_ := M_ ((by rw [hg]; exact (below_size (by repeat (first | (with_reducible first | exact HB.out | apply ba_ | apply bn_ | apply b1_) | exact HB.out))) : w.heap.size ≤ gb176)); have n3_ := M_ ((by rw [hg]; exact (below_size (by repeat (first | (with_reducible first | exact HB.out | apply ba_ | apply bn_ | apply b1_) | exact HB.out))) : w.heap.size ≤ gb176)); clear HB; have HB := n0_; have BK176 := n1_; have GW176 := n2_; have GE176 := n3_; clear n0_ n1_ n2_ n3_; clear hb hbox hg))
 go_loopg [5, 12] k (fun kq v5 v12 w' => ∃ (x5_1 : List (S92)) (x12_1 : Int), v12 = .int .i64 x12_1 ∧ Aside0 (spec_inPart.l0 kq x5_1 l1 (l1.length : Int) x12_1 l0_0 a0_1 = some r) ∧ Aside0 (kq ≤ k) ∧ Aside0 (Kd.R k92 92 w' w.heap.size (fun _ => True) v5 x5_1) ∧ Aside0 (w'.heap[gb176]? = some (.cells #[(.slice A0_0 l0_0.length c0_0), .int .i64 a0_1] 59 (0, 0))) ∧ Aside0 (Below w.heap.size w w'))
 case atStart => exact ⟨(([] : List (S92))), (0), (by first | rfl | (simp; done) | (simp [*]; done)), H', ⟨Nat.le_refl _⟩, ⟨by first | exact Kd.R_nil _ _ _ _ _ | exact Kd.N_nil _ _ _ _ _ | exact Kd.V_nil _ _ _ _ _ | exact Kd.Q_nil _ _ _ _ _ | exact Kd.S_nil _ _ _ _ _⟩, ⟨by (with_reducible repeat (first | refine kn_ ?_ _ | refine kd_ ?_ | refine ka_ ?_ _)); exact BK176.out⟩, ⟨by repeat (first | (with_reducible first | exact HB.out | apply ba_ | apply bn_ | apply b1_ | refine bs_ ?_ GE176.out) | exact HB.out)⟩⟩
 case round =>
  clear H'
  try clear c1
  try clear p2
  obtain ⟨x5_1, x12_1, rfl, HA, HK1, HO_5, BK176, HB⟩ := hrel
  cases gk with
  | zero => exact absurd HA.out (by simp [spec_inPart.l0])
  | succ k1 =>
   have H := HA.out
   clear HA
   simp only [spec_inPart.l0] at H
   by_cases c4 : x12_1 < (l1.length : Int)
   ·rw [if_pos c4] at H
    have c4b0 : decide (x12_1 < (l1.length : Int)) = true := decide_eq_true c4
    clear c4
    by_cases c5 : 0 ≤ x12_1
    ·rw [if_pos c5] at H
     have c5b0 : decide (0 ≤ x12_1) = true := decide_eq_true c5
     clear c5
     by_cases c6 : x12_1 < (l1.length : Int)
     ·rw [if_pos c6] at H
      have c6b0 : decide (x12_1 < (l1.length : Int)) = true := decide_eq_true c6
      clear c6
      obtain ⟨y179, hy179⟩ : ∃ y_ : List (S92), y_ = (([] : List (S92))) := ⟨_, rfl⟩
      replace H : (if y179.length + x5_1.length < 5864062014805 then ((some (y179 ++ x5_1 : List (S92))).bind fun y182 => ((some (([(⟨(rd_T92 l1 x12_1).f0, (rd_T92 l1 x12_1).f1, (rd_T92 l1 x12_1).f2⟩ : S92)] : List (S92)) : List (S92))).bind fun y185 => (if y182.length + y185.length < 5864062014805 then ((some (y182 ++ y185 : List (S92))).bind fun y188 => ((spec_inLast.f k1 y188 (x5_1.length : Int)).bind fun t191 => ((spec_inTrack.f k1 l0_0 a0_1 ((rd_T92 l1 x12_1).f0)).bind fun t192 => (if t192 ≥ 0 then (if t191 < 0 then (spec_inPart.l0 k1 y188 l1 (l1.length : Int) (wrap64 (x12_1 + 1)) l0_0 a0_1) else (if 0 ≤ t191 then (if t191 < (y188.length : Int) then (if (wrap64 (((rd_T92 l1 x12_1).f1) - ((rd_T92 y188 t191).f1))) ≥ a0_1 then (spec_inPart.l0 k1 y188 l1 (l1.length : Int) (wrap64 (x12_1 + 1)) l0_0 a0_1) else (spec_inPart.l0 k1 x5_1 l1 (l1.length : Int) (wrap64 (x12_1 + 1)) l0_0 a0_1)) else (none)) else (none))) else (spec_inPart.l0 k1 x5_1 l1 (l1.length : Int) (wrap64 (x12_1 + 1)) l0_0 a0_1))))) else (none)))) else (none)) = some r := by first | (rw [hy179]; with_reducible exact H) | (have H2_ := (Option.bind_some _ _).symm.trans H; rw [hy179]; with_reducible exact H2_) | (have H2_ := (Option.bind_some _ _).symm.trans H; with_reducible exact H2_) | with_reducible exact H | (rw [hy179]; exact H) | exact H
      have Ny179 := M_ hy179
      clear hy179
      by_cases c7 : y179.length + x5_1.length < 5864062014805
      ·rw [if_pos c7] at H
       have LMc7 := M_ c7
       clear c7
       obtain ⟨y182, hy182⟩ : ∃ y_ : List (S92), y_ = (y179 ++ x5_1) := ⟨_, rfl⟩
       replace H : ((some (([(⟨(rd_T92 l1 x12_1).f0, (rd_T92 l1 x12_1).f1, (rd_T92 l1 x12_1).f2⟩ : S92)] : List (S92)) : List (S92))).bind fun y185 => (if y182.length + y185.length < 5864062014805 then ((some (y182 ++ y185 : List (S92))).bind fun y188 => ((spec_inLast.f k1 y188 (x5_1.length : Int)).bind fun t191 => ((spec_inTrack.f k1 l0_0 a0_1 ((rd_T92 l1 x12_1).f0)).bind fun t192 => (if t192 ≥ 0 then (if t191 < 0 then (spec_inPart.l0 k1 y188 l1 (l1.length : Int) (wrap64 (x12_1 + 1)) l0_0 a0_1) else (if 0 ≤ t191 then (if t191 < (y188.length : Int) then (if (wrap64 (((rd_T92 l1 x12_1).f1) - ((rd_T92 y188 t191).f1))) ≥ a0_1 then (spec_inPart.l0 k1 y188 l1 (l1.length : Int) (wrap64 (x12_1 + 1)) l0_0 a0_1) else (spec_inPart.l0 k1 x5_1 l1 (l1.length : Int) (wrap64 (x12_1 + 1)) l0_0 a0_1)) else (none)) else (none))) else (spec_inPart.l0 k1 x5_1 l1 (l1.length : Int) (wrap64 (x12_1 + 1)) l0_0 a0_1))))) else (none))) = some r := by first | (rw [hy182]; with_reducible exact H) | (have H2_ := (Option.bind_some _ _).symm.trans H; rw [hy182]; with_reducible exact H2_) | (have H2_ := (Option.bind_some _ _).symm.trans H; with_reducible exact H2_) | with_reducible exact H | (rw [hy182]; exact H) | exact H
       have Ny182 := M_ hy182
       clear hy182
       obtain ⟨y185, hy185⟩ : ∃ y_ : List (S92), y_ = (([(⟨(rd_T92 l1 x12_1).f0, (rd_T92 l1 x12_1).f1, (rd_T92 l1 x12_1).f2⟩ : S92)] : List (S92))) := ⟨_, rfl⟩
       replace H : (if y182.length + y185.length < 5864062014805 then ((some (y182 ++ y185 : List (S92))).bind fun y188 => ((spec_inLast.f k1 y188 (x5_1.length : Int)).bind fun t191 => ((spec_inTrack.f k1 l0_0 a0_1 ((rd_T92 l1 x12_1).f0)).bind fun t192 => (if t192 ≥ 0 then (if t191 < 0 then (spec_inPart.l0 k1 y188 l1 (l1.length : Int) (wrap64 (x12_1 + 1)) l0_0 a0_1) else (if 0 ≤ t191 then (if t191 < (y188.length : Int) then (if (wrap64 (((rd_T92 l1 x12_1).f1) - ((rd_T92 y188 t191).f1))) ≥ a0_1 then (spec_inPart.l0 k1 y188 l1 (l1.length : Int) (wrap64 (x12_1 + 1)) l0_0 a0_1) else (spec_inPart.l0 k1 x5_1 l1 (l1.length : Int) (wrap64 (x12_1 + 1)) l0_0 a0_1)) else (none)) else (none))) else (spec_inPart.l0 k1 x5_1 l1 (l1.length : Int) (wrap64 (x12_1 + 1)) l0_0 a0_1))))) else (none)) = some r := by first | (rw [hy185]; with_reducible exact H) | (have H2_ := (Option.bind_some _ _).symm.trans H; rw [hy185]; with_reducible exact H2_) | (have H2_ := (Option.bind_some _ _).symm.trans H; with_reducible exact H2_) | with_reducible exact H | (rw [hy185]; exact H) | exact H
       have Ny185 := M_ hy185
       clear hy185
       by_cases c8 : y182.length + y185.length < 5864062014805
       ·rw [if_pos c8] at H
        have LMc8 := M_ c8
        clear c8
        obtain ⟨y188, hy188⟩ : ∃ y_ : List (S92), y_ = (y182 ++ y185) := ⟨_, rfl⟩
        replace H : ((spec_inLast.f k1 y188 (x5_1.length : Int)).bind fun t191 => ((spec_inTrack.f k1 l0_0 a0_1 ((rd_T92 l1 x12_1).f0)).bind fun t192 => (if t192 ≥ 0 then (if t191 < 0 then (spec_inPart.l0 k1 y188 l1 (l1.length : Int) (wrap64 (x12_1 + 1)) l0_0 a0_1) else (if 0 ≤ t191 then (if t191 < (y188.length : Int) then (if (wrap64 (((rd_T92 l1 x12_1).f1) - ((rd_T92 y188 t191).f1))) ≥ a0_1 then (spec_inPart.l0 k1 y188 l1 (l1.length : Int) (wrap64 (x12_1 + 1)) l0_0 a0_1) else (spec_inPart.l0 k1 x5_1 l1 (l1.length : Int) (wrap64 (x12_1 + 1)) l0_0 a0_1)) else (none)) else (none))) else (spec_inPart.l0 k1 x5_1 l1 (l1.length : Int) (wrap64 (x12_1 + 1)) l0_0 a0_1)))) = some r := by first | (rw [hy188]; with_reducible exact H) | (have H2_ := (Option.bind_some _ _).symm.trans H; rw [hy188]; with_reducible exact H2_) | (have H2_ := (Option.bind_some _ _).symm.trans H; with_reducible exact H2_) | with_reducible exact H | (rw [hy188]; exact H) | exact H
        have Ny188 := M_ hy188
        clear hy188
        replace H := Option.bind_eq_some_iff.mp H
        obtain ⟨t191, A90, H⟩ := H
        replace H : ((spec_inTrack.f k1 l0_0 a0_1 ((rd_T92 l1 x12_1).f0)).bind fun t192 => (if t192 ≥ 0 then (if t191 < 0 then (spec_inPart.l0 k1 y188 l1 (l1.length : Int) (wrap64 (x12_1 + 1)) l0_0 a0_1) else (if 0 ≤ t191 then (if t191 < (y188.length : Int) then (if (wrap64 (((rd_T92 l1 x12_1).f1) - ((rd_T92 y188 t191).f1))) ≥ a0_1 then (spec_inPart.l0 k1 y188 l1 (l1.length : Int) (wrap64 (x12_1 + 1)) l0_0 a0_1) else (spec_inPart.l0 k1 x5_1 l1 (l1.length : Int) (wrap64 (x12_1 + 1)) l0_0 a0_1)) else (none)) else (none))) else (spec_inPart.l0 k1 x5_1 l1 (l1.length : Int) (wrap64 (x12_1 + 1)) l0_0 a0_1))) = some r := H
        have A9 := M_ A90
        clear A90
        replace H := Option.bind_eq_some_iff.mp H
        obtain ⟨t192, A100, H⟩ := H
        replace H : (if t192 ≥ 0 then (if t191 < 0 then (spec_inPart.l0 k1 y188 l1 (l1.length : Int) (wrap64 (x12_1 + 1)) l0_0 a0_1) else (if 0 ≤ t191 then (if t191 < (y188.length : Int) then (if (wrap64 (((rd_T92 l1 x12_1).f1) - ((rd_T92 y188 t191).f1))) ≥ a0_1 then (spec_inPart.l0 k1 y188 l1 (l1.length : Int) (wrap64 (x12_1 + 1)) l0_0 a0_1) else (spec_inPart.l0 k1 x5_1 l1 (l1.length : Int) (wrap64 (x12_1 + 1)) l0_0 a0_1)) else (none)) else (none))) else (spec_inPart.l0 k1 x5_1 l1 (l1.length : Int) (wrap64 (x12_1 + 1)) l0_0 a0_1)) = some r := H
        have A10 := M_ A100
        clear A100
        by_cases c11 : t192 ≥ 0
        ·rw [if_pos c11] at H
         have c11b0 : decide (0 ≤ t192) = true := decide_eq_true c11
         clear c11
         by_cases c12 : t191 < 0
         ·rw [if_pos c12] at H
          have c12b0 : decide (t191 < 0) = true := decide_eq_true c12
          clear c12
          have H' := M_ H
          clear H
          have p177 : 0 ≤ (x12_1 : Int) := of_decide_eq_true (by first | (with_reducible assumption) | assumption)
          have q177 : x12_1 < (l1.length : Int) := of_decide_eq_true (by first | (with_reducible assumption) | assumption)
          obtain ⟨ad177, e177, hx177_0, hx177_1, hx177_2⟩ := at_T92 HR1.out x12_1 p177 q177
          cases e177
          replace hx177_0 := (HB.out.cell (World.block_lt_of_cell? w _ hx177_0)).trans hx177_0
          replace hx177_1 := (HB.out.cell (World.block_lt_of_cell? w _ hx177_1)).trans hx177_1
          replace hx177_2 := (HB.out.cell (World.block_lt_of_cell? w _ hx177_2)).trans hx177_2
          replace p177 := eq_true p177
          replace q177 := eq_true q177
          try go_wp2_with (first | ((with_reducible refine gate_dst (N := 7) rfl ?_); refine box_event ?hg (N := 7) ?hd (cs := #[.int .i64 0, .int .i64 0, .int .i64 0]) (t := 92) ?hr ?_; (case hd => rfl); (case hg => rfl); (case hr => first | (go_simp; done) | (go_simp; rfl)); intro gb178 hg w13 hbox hb; have n0_ := M_ (rb_ (Kd.R_elderB (by (with_reducible repeat (first | apply ra_ | apply rn_ | apply rd_)); exact HO_5.out) gb178 (Nat.le_of_eq hg.symm)) hb); have n1_ := M_ (blk_below (g := gb176) (o := .cells #[.slice A0_0 l0_0.length c0_0, .int .i64 a0_1] 59 (0, 0)) (by (with_reducible repeat (first | refine kn_ ?_ _ | refine kd_ ?_ | refine ka_ ?_ _)); exact BK176.out) hb); have n2_ := M_ (below_step (by repeat (first | (with_reducible first | exact HB.out | apply ba_ | apply bn_ | apply b1_ | refine bs_ ?_ GE176.out) | exact HB.out)) hb); have n3_ := M_ (hbox); have n4_ := M_ ((by rw [hg]; exact (below_size (by repeat (first | (with_reducible first | exact HB.out | apply ba_ | apply bn_ | apply b1_ | refine bs_ ?_ GE176.out) | exact HB.out))) : w.heap.size ≤ gb178)); have n5_ := M_ ((by rw [hg]; exact (below_size (by repeat (first | (with_reducible first | exact HB.out | apply ba_ | apply bn_ | apply b1_ | refine bs_ ?_ GE176.out) | exact HB.out))) : w.heap.size ≤ gb178)); have n6_ := M_ ((by rw [hg]; exact Nat.ne_of_lt (blk_lt (g := gb176) (o := .cells #[.slice A0_0 l0_0.length c0_0, .int .i64 a0_1] 59 (0, 0)) (by (with_reducible repeat (first | refine kn_ ?_ _ | refine kd_ ?_ | refine ka_ ?_ _)); exact BK176.out)) : gb176 ≠ gb178)); have n7_ := M_ ((by rw [hg]; exact Nat.ne_of_gt (blk_lt (g := gb176) (o := .cells #[.slice A0_0 l0_0.length c0_0, .int .i64 a0_1] 59 (0, 0)) (by (with_reducible repeat (first | refine kn_ ?_ _ | refine kd_ ?_ | refine ka_ ?_ _)); exact BK176.out)) : gb178 ≠ gb176)); clear HO_5; clear BK176; clear HB; have HO_5 := n0_; have BK176 := n1_; have HB := n2_; have BK178 := n3_; have GW178 := n4_; have GE178 := n5_; have NB176_178 := n6_; have NB178_176 := n7_; clear n0_ n1_ n2_ n3_ n4_ n5_ n6_ n7_; clear hb hbox hg; have hnb14 := NB178_176.out; have hnc14 := NB176_178.out; have hcz15_0 : w13.cell? ⟨gb178, 0, none⟩ = some (.int .i64 0) := (blk_cell BK178.out 0).trans rfl; have hcz15_1 : w13.cell? ⟨gb178, 1, none⟩ = some (.int .i64 0) := (blk_cell BK178.out 1).trans rfl; have hcz15_2 : w13.cell? ⟨gb178, 2, none⟩ = some (.int .i64 0) := (blk_cell BK178.out 2).trans rfl; have hfz15_0 := blk_frozen BK178.out 0; have hfz15_1 := blk_frozen BK178.out 1; have hfz15_2 := blk_frozen BK178.out 2; obtain ⟨Ao16, co16, eo16⟩ := Kd.R_slice HO_5.out; subst eo16))
          have n0_ : Aside0 (Kd.R k92 92 (((w13.setCell ⟨gb178, 0, none⟩ (.int .i64 ((rd_T92 l1 x12_1).f0))).setCell ⟨gb178, 1, none⟩ (.int .i64 ((rd_T92 l1 x12_1).f1))).setCell ⟨gb178, 2, none⟩ (.int .i64 ((rd_T92 l1 x12_1).f2))) w.heap.size (fun k_ => k_ ≠ gb178) (.slice Ao16 x5_1.length co16) x5_1) := ⟨by (with_reducible repeat (first | apply ra_ | apply rn_ | apply rd_)); exact rm_ (Kd.R_far (p := ⟨gb178, 2, none⟩) (Kd.R_far (p := ⟨gb178, 1, none⟩) (Kd.R_far (p := ⟨gb178, 0, none⟩) (rm_ HO_5.out (fun k_ hk => (⟨hk, hk.2⟩ : _ ∧ k_ ≠ gb178))) (fun _ hk => hk.2) (.int .i64 ((rd_T92 l1 x12_1).f0))) (fun _ hk => hk.2) (.int .i64 ((rd_T92 l1 x12_1).f1))) (fun _ hk => hk.2) (.int .i64 ((rd_T92 l1 x12_1).f2))) (fun _ hk => hk.1.2)⟩
          have n1_ : Aside0 ((((w13.setCell ⟨gb178, 0, none⟩ (.int .i64 ((rd_T92 l1 x12_1).f0))).setCell ⟨gb178, 1, none⟩ (.int .i64 ((rd_T92 l1 x12_1).f1))).setCell ⟨gb178, 2, none⟩ (.int .i64 ((rd_T92 l1 x12_1).f2))).heap[gb176]? = some (.cells #[.slice A0_0 l0_0.length c0_0, .int .i64 a0_1] 59 (0, 0))) := ⟨by (with_reducible repeat (first | refine kn_ ?_ _ | refine kd_ ?_ | refine ka_ ?_ _)); refine blk_far ?_ NB176_178.out _; (with_reducible repeat (first | refine kn_ ?_ _ | refine kd_ ?_ | refine ka_ ?_ _)); refine blk_far ?_ NB176_178.out _; (with_reducible repeat (first | refine kn_ ?_ _ | refine kd_ ?_ | refine ka_ ?_ _)); refine blk_far ?_ NB176_178.out _; (with_reducible repeat (first | refine kn_ ?_ _ | refine kd_ ?_ | refine ka_ ?_ _)); exact BK176.out⟩
          have n2_ : Aside0 ((((w13.setCell ⟨gb178, 0, none⟩ (.int .i64 ((rd_T92 l1 x12_1).f0))).setCell ⟨gb178, 1, none⟩ (.int .i64 ((rd_T92 l1 x12_1).f1))).setCell ⟨gb178, 2, none⟩ (.int .i64 ((rd_T92 l1 x12_1).f2))).heap[gb178]? = some (.cells #[.int .i64 ((rd_T92 l1 x12_1).f0), .int .i64 ((rd_T92 l1 x12_1).f1), .int .i64 ((rd_T92 l1 x12_1).f2)] 92 (0, 0))) := ⟨by (with_reducible repeat (first | refine kn_ ?_ _ | refine kd_ ?_ | refine ka_ ?_ _)); refine blk_put (cs := #[.int .i64 ((rd_T92 l1 x12_1).f0), .int .i64 ((rd_T92 l1 x12_1).f1), .int .i64 0]) ?_ 2 _ rfl; (with_reducible repeat (first | refine kn_ ?_ _ | refine kd_ ?_ | refine ka_ ?_ _)); refine blk_put (cs := #[.int .i64 ((rd_T92 l1 x12_1).f0), .int .i64 0, .int .i64 0]) ?_ 1 _ rfl; (with_reducible repeat (first | refine kn_ ?_ _ | refine kd_ ?_ | refine ka_ ?_ _)); refine blk_put (cs := #[.int .i64 0, .int .i64 0, .int .i64 0]) ?_ 0 _ rfl; (with_reducible repeat (first | refine kn_ ?_ _ | refine kd_ ?_ | refine ka_ ?_ _)); exact BK178.out⟩
          have n3_ : Aside0 (Below w.heap.size w (((w13.setCell ⟨gb178, 0, none⟩ (.int .i64 ((rd_T92 l1 x12_1).f0))).setCell ⟨gb178, 1, none⟩ (.int .i64 ((rd_T92 l1 x12_1).f1))).setCell ⟨gb178, 2, none⟩ (.int .i64 ((rd_T92 l1 x12_1).f2)))) := ⟨by repeat (first | (with_reducible first | exact HB.out | apply ba_ | apply bn_ | apply b1_ | refine bs_ ?_ GE176.out | refine bs_ ?_ GE178.out) | exact HB.out)⟩
          (try clear HO_5)
          (try clear BK176)
          (try clear BK178)
          (try clear HB)
          generalize (((w13.setCell ⟨gb178, 0, none⟩ (.int .i64 ((rd_T92 l1 x12_1).f0))).setCell ⟨gb178, 1, none⟩ (.int .i64 ((rd_T92 l1 x12_1).f1))).setCell ⟨gb178, 2, none⟩ (.int .i64 ((rd_T92 l1 x12_1).f2))) = w17 at n0_ n1_ n2_ n3_ ⊢
          have HO_5 := n0_
          have BK176 := n1_
          have BK178 := n2_
          have HB := n3_
          clear n0_ n1_ n2_ n3_
          have n0_ := M_ (rd_ HO_5.out)
          have n1_ := M_ (kd_ BK176.out)
          have n2_ := M_ (kd_ BK178.out)
          have n3_ := M_ (b1_ HB.out)
          clear HO_5
          clear BK176
          clear BK178
          clear HB
          have HO_5 := n0_
          have BK176 := n1_
          have BK178 := n2_
          have HB := n3_
          clear n0_ n1_ n2_ n3_
          refine start_ (n := 7) (S := fun w' => w'.cell? ⟨gb178, 0, none⟩ = some (.int .i64 ((rd_T92 l1 x12_1).f0)) ∧ w'.cell? ⟨gb178, 1, none⟩ = some (.int .i64 ((rd_T92 l1 x12_1).f1)) ∧ w'.cell? ⟨gb178, 2, none⟩ = some (.int .i64 ((rd_T92 l1 x12_1).f2))) (ds := []) #[false, false, false, false, false, false, false] (by kernel_rfl) rfl rfl ⟨(blk_cell BK178.out 0).trans rfl, (blk_cell BK178.out 1).trans rfl, (blk_cell BK178.out 2).trans rfl⟩ (fun hHeld => ?_)
          generalize w17.drew = w18 at HO_5 BK176 BK178 HB hHeld ⊢
          refine pure_ (i := 1) (N := some 17) (v := ?_) (a' := ?_) #[false, true, false, false, false, false, false] rfl rfl (by kernel_rfl) (fun _ _ _ h => h) (Or.inl ⟨by rfl, ?_⟩) ?_ ?_
          rotate_left
          ·intro w'
           go_simp
           with_reducible rfl
          rotate_left
          ·simp only [Act.put, la_, lb_, lc_, i64_w, i32_w]
           rfl
          refine take_ (i := 3) (N := some 19) (v := ?_) (a' := ?_) #[false, true, false, true, false, false, false] rfl rfl (by kernel_rfl) (fun _ _ _ h => h) (Or.inl ⟨by rfl, ?_⟩) hHeld ?_ ?_
          rotate_left
          ·rintro w' ⟨s0, s1, s2⟩
           go_simp
           with_reducible rfl
          rotate_left
          ·simp only [Act.put, la_, lb_, lc_, i64_w, i32_w]
           rfl
          refine join_ (σ := Value × Value × Value) 2 #[true, true, true, true, true, false, false] (fun s_ => [(16, s_.1), (18, s_.2.1), (20, s_.2.2)]) (fun s_ w' => (w'.cell? ⟨gb178, 0, none⟩ = some (.int .i64 ((rd_T92 l1 x12_1).f0)) ∧ w'.cell? ⟨gb178, 1, none⟩ = some (.int .i64 ((rd_T92 l1 x12_1).f1)) ∧ w'.cell? ⟨gb178, 2, none⟩ = some (.int .i64 ((rd_T92 l1 x12_1).f2))) ∧ (Kd.R k92 92 w' w.heap.size (fun k_ => some k_ ≠ (s_.2.2 : Value).ownBlock ∧ some k_ ≠ (.slice Ao16 x5_1.length co16 : Value).ownBlock ∧ k_ ≠ gb178) s_.2.1 y182) ∧ (Kd.R k92 92 w' w.heap.size (fun k_ => some k_ ≠ (s_.2.1 : Value).ownBlock ∧ some k_ ≠ (.slice Ao16 x5_1.length co16 : Value).ownBlock ∧ k_ ≠ gb178) s_.2.2 y185) ∧ (Kd.R k92 92 w' w.heap.size (fun k_ => some k_ ≠ (s_.2.1 : Value).ownBlock ∧ some k_ ≠ (s_.2.2 : Value).ownBlock ∧ k_ ≠ gb178) (.slice Ao16 x5_1.length co16) x5_1) ∧ (w'.heap[gb176]? = some (.cells #[.slice A0_0 l0_0.length c0_0, .int .i64 a0_1] 59 (0, 0))) ∧ (w'.heap[gb178]? = some (.cells #[.int .i64 ((rd_T92 l1 x12_1).f0), .int .i64 ((rd_T92 l1 x12_1).f1), .int .i64 ((rd_T92 l1 x12_1).f2)] 92 (0, 0))) ∧ (Below w.heap.size w w')) ?_ ?_
          rotate_left
          ·intro hCont
           refine two_ (i := 0) (j := 4) (Ni := some 16) (Nj := some 20) #[true, true, false, true, false, false, false] #[false, true, false, true, true, false, false] rfl rfl rfl rfl (by kernel_rfl) (by decide) (by decide) (fun K hK => ?_) (fun K hK => ?_)
           ·skip
            refine Kd.R_lit_step k92 _ 92 ?hg (N := 16) ?hd (xs := ([] : List (S92))) (inner := []) (ok := fun _ => True) (okp := fun _ => True) ?hr ?hp (fun _ hk => hk) trivial (Below.refl _ _) (Nat.le_refl _) (by simp) ?_; (case hd => rfl); (case hg => rfl); (case hr => first | (go_simp; done) | (go_simp; rfl)); (case hp => exact (Reps.none _ _))
            intro v180 w19 ho20 hb hg_ hnew_
            clear hg_ hnew_
            (first | rw [← Ny179.out] at ho20 | (simp only [Int.reduceToNat] at ho20; rw [← Ny179.out] at ho20))
            have n0_ := M_ (Kd.R_elder' (by (with_reducible repeat (first | apply ra_ | apply rn_ | apply rd_)); exact HO_5.out) (Kd.R_base ho20) hb)
            have n1_ := M_ (Kd.R_lower (Kd.R_newB (Kd.R_new' ho20 (Kd.R_lt (by (with_reducible repeat (first | apply ra_ | apply rn_ | apply rd_)); exact HO_5.out))) (g := gb178) (o := .cells #[.int .i64 ((rd_T92 l1 x12_1).f0), .int .i64 ((rd_T92 l1 x12_1).f1), .int .i64 ((rd_T92 l1 x12_1).f2)] 92 (0, 0)) (by (with_reducible repeat (first | refine kn_ ?_ _ | refine kd_ ?_ | refine ka_ ?_ _)); exact BK178.out)) (below_size (by repeat (first | (with_reducible first | exact HB.out | apply ba_ | apply bn_ | apply b1_ | refine bs_ ?_ GE176.out | refine bs_ ?_ GE178.out) | exact HB.out))))
            have n2_ := M_ (blk_below (g := gb176) (o := .cells #[.slice A0_0 l0_0.length c0_0, .int .i64 a0_1] 59 (0, 0)) (by (with_reducible repeat (first | refine kn_ ?_ _ | refine kd_ ?_ | refine ka_ ?_ _)); exact BK176.out) hb)
            have n3_ := M_ (blk_below (g := gb178) (o := .cells #[.int .i64 ((rd_T92 l1 x12_1).f0), .int .i64 ((rd_T92 l1 x12_1).f1), .int .i64 ((rd_T92 l1 x12_1).f2)] 92 (0, 0)) (by (with_reducible repeat (first | refine kn_ ?_ _ | refine kd_ ?_ | refine ka_ ?_ _)); exact BK178.out) hb)
            have n4_ := M_ (below_step (by repeat (first | (with_reducible first | exact HB.out | apply ba_ | apply bn_ | apply b1_ | refine bs_ ?_ GE176.out | refine bs_ ?_ GE178.out) | exact HB.out)) hb)
            clear HO_5
            clear BK176
            clear BK178
            clear HB
            have HO_5 := n0_
            have HO181 := n1_
            have BK176 := n2_
            have BK178 := n3_
            have HB := n4_
            clear n0_ n1_ n2_ n3_ n4_
            clear hb ho20
            refine hK.out _ _ ⟨(blk_cell BK178.out 0).trans rfl, (blk_cell BK178.out 1).trans rfl, (blk_cell BK178.out 2).trans rfl⟩ (fun hHeld => ?_)
            clear hK K
            refine norm_ (a' := ?_) ?_ ?_
            rotate_left
            ·show Act.put _ (some 16) _ = _
             simp only [Act.put, la_, lb_, lc_, i64_w, i32_w]
             rfl
            refine two_ (i := 2) (j := 4) (Ni := some 18) (Nj := some 20) #[true, true, true, true, false, false, false] #[true, true, false, true, true, false, false] rfl rfl rfl rfl (by kernel_rfl) (by decide) (by decide) (fun K hK => ?_) (fun K hK => ?_)
            ·skip
             refine Kd.R_append_rows_step k92 (w0 := w) w.heap.size (by rfl) (.tmp 16) (.tmp 17) 24 92 (.agg #[(.int .i64 0), (.int .i64 0), (.int .i64 0)]) 24 rfl Try.underlying24 info92 rfl (by decide) (by omega) v180 y179 x5_1 _ _ _ (fun k_ => some k_ ≠ (.slice Ao16 x5_1.length co16 : Value).ownBlock ∧ k_ ≠ gb178) (fun _ => False) rfl rfl ?aO ?aR (fun _ _ h => h) (fun _ h => h.elim) ?aF ?aB ?aS ?aL ?_
             (case aR => repeat (first | exact (Kd.R_reads' HO_5.out).2.2 | (with_reducible refine Kd.C_alloc ?_ _) | (with_reducible refine Kd.C_drewN ?_ _) | (with_reducible refine Kd.C_drew ?_)))
             (case aB => exact (by repeat (first | (with_reducible first | exact HB.out | apply ba_ | apply bn_ | apply b1_ | refine bs_ ?_ GE176.out | refine bs_ ?_ GE178.out) | exact HB.out)))
             (case aF => exact (fun k_ hk => ⟨Kd.fresh' (Kd.R_lt (by (with_reducible repeat (first | apply ra_ | apply rn_ | apply rd_)); exact HO_5.out)) k_ hk, Kd.freshB (g := gb178) (o := .cells #[.int .i64 ((rd_T92 l1 x12_1).f0), .int .i64 ((rd_T92 l1 x12_1).f1), .int .i64 ((rd_T92 l1 x12_1).f2)] 92 (0, 0)) (by (with_reducible repeat (first | refine kn_ ?_ _ | refine kd_ ?_ | refine ka_ ?_ _)); exact BK178.out) k_ hk⟩))
             (case aO => exact (by (with_reducible repeat (first | apply ra_ | apply rn_ | apply rd_)); first | exact rm_ HO181.out (fun _ hk => ⟨hk.1.2, hk.2⟩) | exact rm_ HO181.out (fun _ hk => by refine ⟨?_, ?_⟩ <;> (first | exact hk.2 | exact hk.2.1 | exact hk.2.2 | exact hk.1.2 | exact hk.1.2.1 | exact hk.1.2.2 | exact hk.1.1.2 | exact hk.1.1.2.1 | exact hk.1.1.2.2 | exact hk.1.1.1.2 | exact hk.1.1.1.2.1 | exact hk.1.1.1.2.2 | exact hk.1.1.1.1.2 | exact hk.1.1.1.1.2.1 | exact hk.1.1.1.1.2.2 | exact hk | exact hk.1 | exact hk.1.1 | exact hk.1.1.1 | exact hk.1.1.1.1 | exact hk.1.1.1.1.1))))
             (case aS => exact (below_size (by repeat (first | (with_reducible first | exact HB.out | apply ba_ | apply bn_ | apply b1_ | refine bs_ ?_ GE176.out | refine bs_ ?_ GE178.out) | exact HB.out))))
             (case aL => have := LMc7.out; omega)
             intro v183 w21 ho hb hg hat
             rw [← Ny182.out] at ho
             have n0_ := M_ (Kd.R_after (ok := (fun k_ => k_ ≠ gb178)) (by (with_reducible repeat (first | apply ra_ | apply rn_ | apply rd_)); exact HO_5.out) hg hat)
             have n1_ := M_ (blk_grown (g := gb176) (o := .cells #[.slice A0_0 l0_0.length c0_0, .int .i64 a0_1] 59 (0, 0)) (by (with_reducible repeat (first | refine kn_ ?_ _ | refine kd_ ?_ | refine ka_ ?_ _)); exact BK176.out) hg (Kd.R_ne HO181.out BK176.out (by decide)))
             have n2_ := M_ (blk_grown (g := gb178) (o := .cells #[.int .i64 ((rd_T92 l1 x12_1).f0), .int .i64 ((rd_T92 l1 x12_1).f1), .int .i64 ((rd_T92 l1 x12_1).f2)] 92 (0, 0)) (by (with_reducible repeat (first | refine kn_ ?_ _ | refine kd_ ?_ | refine ka_ ?_ _)); exact BK178.out) hg (Kd.R_away HO181.out (fun _ hk => hk.2)))
             have n3_ := M_ (hb)
             have n4_ := M_ (ho)
             clear HO_5
             clear BK176
             clear BK178
             clear HB
             clear HO181
             have HO_5 := n0_
             have BK176 := n1_
             have BK178 := n2_
             have HB := n3_
             have HO184 := n4_
             clear n0_ n1_ n2_ n3_ n4_
             clear ho hb hg hat
             refine hK.out _ _ ⟨(blk_cell BK178.out 0).trans rfl, (blk_cell BK178.out 1).trans rfl, (blk_cell BK178.out 2).trans rfl⟩ (fun hHeld => ?_)
             clear hK K
             refine norm_ (a' := ?_) ?_ ?_
             rotate_left
             ·show Act.put _ (some 18) _ = _
              simp only [Act.put, la_, lb_, lc_, i64_w, i32_w]
              rfl
             refine one_ (i := 4) (N := some 20) #[true, true, true, true, true, false, false] rfl rfl (by kernel_rfl) (by decide) (fun K hK => ?_)
             refine Kd.R_lit_step k92 _ 92 ?hg (N := 20) ?hd (xs := ([(⟨(rd_T92 l1 x12_1).f0, (rd_T92 l1 x12_1).f1, (rd_T92 l1 x12_1).f2⟩ : S92)] : List (S92))) (inner := [.int .i64 ((rd_T92 l1 x12_1).f0), .int .i64 ((rd_T92 l1 x12_1).f1), .int .i64 ((rd_T92 l1 x12_1).f2)]) (ok := fun _ => True) (okp := fun _ => True) ?hr ?hp (fun _ hk => hk) trivial (Below.refl _ _) (Nat.le_refl _) (by simp) ?_; (case hd => rfl); (case hg => rfl); (case hr => first | (go_simp; done) | (go_simp; rfl)); (case hp => exact (Reps.c3 (show Kd.M k92 _ _ _ (⟨(rd_T92 l1 x12_1).f0, (rd_T92 l1 x12_1).f1, (rd_T92 l1 x12_1).f2⟩ : S92) [.int .i64 ((rd_T92 l1 x12_1).f0), .int .i64 ((rd_T92 l1 x12_1).f1), .int .i64 ((rd_T92 l1 x12_1).f2)] from (k92_mkM _ _ _ (⟨(rd_T92 l1 x12_1).f0, (rd_T92 l1 x12_1).f1, (rd_T92 l1 x12_1).f2⟩ : S92) )) (Reps.none _ _)))
             intro v186 w22 ho23 hb hg_ hnew_
             clear hg_ hnew_
             (first | rw [← Ny185.out] at ho23 | (simp only [Int.reduceToNat] at ho23; rw [← Ny185.out] at ho23))
             have n0_ := M_ (Kd.R_elder' (by (with_reducible repeat (first | apply ra_ | apply rn_ | apply rd_)); exact HO_5.out) (Kd.R_base ho23) hb)
             have n1_ := M_ (Kd.R_elder' (by (with_reducible repeat (first | apply ra_ | apply rn_ | apply rd_)); exact HO184.out) (Kd.R_base ho23) hb)
             have n2_ := M_ (Kd.R_lower (Kd.R_newB (Kd.R_new' (Kd.R_new' ho23 (Kd.R_lt (by (with_reducible repeat (first | apply ra_ | apply rn_ | apply rd_)); exact HO_5.out))) (Kd.R_lt (by (with_reducible repeat (first | apply ra_ | apply rn_ | apply rd_)); exact HO184.out))) (g := gb178) (o := .cells #[.int .i64 ((rd_T92 l1 x12_1).f0), .int .i64 ((rd_T92 l1 x12_1).f1), .int .i64 ((rd_T92 l1 x12_1).f2)] 92 (0, 0)) (by (with_reducible repeat (first | refine kn_ ?_ _ | refine kd_ ?_ | refine ka_ ?_ _)); exact BK178.out)) (below_size (by repeat (first | (with_reducible first | exact HB.out | apply ba_ | apply bn_ | apply b1_ | refine bs_ ?_ GE176.out | refine bs_ ?_ GE178.out) | exact HB.out))))
             have n3_ := M_ (blk_below (g := gb176) (o := .cells #[.slice A0_0 l0_0.length c0_0, .int .i64 a0_1] 59 (0, 0)) (by (with_reducible repeat (first | refine kn_ ?_ _ | refine kd_ ?_ | refine ka_ ?_ _)); exact BK176.out) hb)
             have n4_ := M_ (blk_below (g := gb178) (o := .cells #[.int .i64 ((rd_T92 l1 x12_1).f0), .int .i64 ((rd_T92 l1 x12_1).f1), .int .i64 ((rd_T92 l1 x12_1).f2)] 92 (0, 0)) (by (with_reducible repeat (first | refine kn_ ?_ _ | refine kd_ ?_ | refine ka_ ?_ _)); exact BK178.out) hb)
             have n5_ := M_ (below_step (by repeat (first | (with_reducible first | exact HB.out | apply ba_ | apply bn_ | apply b1_ | refine bs_ ?_ GE176.out | refine bs_ ?_ GE178.out) | exact HB.out)) hb)
             clear HO_5
             clear HO184
             clear BK176
             clear BK178
             clear HB
             have HO_5 := n0_
             have HO184 := n1_
             have HO187 := n2_
             have BK176 := n3_
             have BK178 := n4_
             have HB := n5_
             clear n0_ n1_ n2_ n3_ n4_ n5_
             clear hb ho23
             refine hK.out _ _ ⟨(blk_cell BK178.out 0).trans rfl, (blk_cell BK178.out 1).trans rfl, (blk_cell BK178.out 2).trans rfl⟩ (fun hHeld => ?_)
             clear hK K
             refine norm_ (a' := ?_) ?_ ?_
             rotate_left
             ·show Act.put _ (some 20) _ = _
              simp only [Act.put, la_, lb_, lc_, i64_w, i32_w]
              rfl
             exact norm_ (by simp only [putAll, Act.put, la_, lb_, lc_]) (hCont (v180, v183, v186) _ ⟨hHeld, (by (with_reducible repeat (first | apply ra_ | apply rn_ | apply rd_)); exact rm_ HO184.out (fun _ hk => ⟨hk.2, ⟨hk.1.1, hk.1.2⟩⟩)), (by (with_reducible repeat (first | apply ra_ | apply rn_ | apply rd_)); exact rm_ HO187.out (fun _ hk => ⟨hk.1.2, ⟨hk.1.1.2, hk.2⟩⟩)), (by (with_reducible repeat (first | apply ra_ | apply rn_ | apply rd_)); exact rm_ HO_5.out (fun _ hk => ⟨hk.1.2, ⟨hk.2, hk.1.1⟩⟩)), (by (with_reducible repeat (first | refine kn_ ?_ _ | refine kd_ ?_ | refine ka_ ?_ _)); exact BK176.out), (by (with_reducible repeat (first | refine kn_ ?_ _ | refine kd_ ?_ | refine ka_ ?_ _)); exact BK178.out), (by repeat (first | (with_reducible first | exact HB.out | apply ba_ | apply bn_ | apply b1_ | refine bs_ ?_ GE176.out | refine bs_ ?_ GE178.out) | exact HB.out))⟩)
            ·skip
             refine Kd.R_lit_step k92 _ 92 ?hg (N := 20) ?hd (xs := ([(⟨(rd_T92 l1 x12_1).f0, (rd_T92 l1 x12_1).f1, (rd_T92 l1 x12_1).f2⟩ : S92)] : List (S92))) (inner := [.int .i64 ((rd_T92 l1 x12_1).f0), .int .i64 ((rd_T92 l1 x12_1).f1), .int .i64 ((rd_T92 l1 x12_1).f2)]) (ok := fun _ => True) (okp := fun _ => True) ?hr ?hp (fun _ hk => hk) trivial (Below.refl _ _) (Nat.le_refl _) (by simp) ?_; (case hd => rfl); (case hg => rfl); (case hr => first | (go_simp; done) | (go_simp; rfl)); (case hp => exact (Reps.c3 (show Kd.M k92 _ _ _ (⟨(rd_T92 l1 x12_1).f0, (rd_T92 l1 x12_1).f1, (rd_T92 l1 x12_1).f2⟩ : S92) [.int .i64 ((rd_T92 l1 x12_1).f0), .int .i64 ((rd_T92 l1 x12_1).f1), .int .i64 ((rd_T92 l1 x12_1).f2)] from (k92_mkM _ _ _ (⟨(rd_T92 l1 x12_1).f0, (rd_T92 l1 x12_1).f1, (rd_T92 l1 x12_1).f2⟩ : S92) )) (Reps.none _ _)))
             intro v186 w21 ho22 hb hg_ hnew_
             clear hg_ hnew_
             (first | rw [← Ny185.out] at ho22 | (simp only [Int.reduceToNat] at ho22; rw [← Ny185.out] at ho22))
             have n0_ := M_ (Kd.R_elder' (by (with_reducible repeat (first | apply ra_ | apply rn_ | apply rd_)); exact HO_5.out) (Kd.R_base ho22) hb)
             have n1_ := M_ (Kd.R_elder' (by (with_reducible repeat (first | apply ra_ | apply rn_ | apply rd_)); exact HO181.out) (Kd.R_base ho22) hb)
             have n2_ := M_ (Kd.R_lower (Kd.R_newB (Kd.R_new' (Kd.R_new' ho22 (Kd.R_lt (by (with_reducible repeat (first | apply ra_ | apply rn_ | apply rd_)); exact HO_5.out))) (Kd.R_lt (by (with_reducible repeat (first | apply ra_ | apply rn_ | apply rd_)); exact HO181.out))) (g := gb178) (o := .cells #[.int .i64 ((rd_T92 l1 x12_1).f0), .int .i64 ((rd_T92 l1 x12_1).f1), .int .i64 ((rd_T92 l1 x12_1).f2)] 92 (0, 0)) (by (with_reducible repeat (first | refine kn_ ?_ _ | refine kd_ ?_ | refine ka_ ?_ _)); exact BK178.out)) (below_size (by repeat (first | (with_reducible first | exact HB.out | apply ba_ | apply bn_ | apply b1_ | refine bs_ ?_ GE176.out | refine bs_ ?_ GE178.out) | exact HB.out))))
             have n3_ := M_ (blk_below (g := gb176) (o := .cells #[.slice A0_0 l0_0.length c0_0, .int .i64 a0_1] 59 (0, 0)) (by (with_reducible repeat (first | refine kn_ ?_ _ | refine kd_ ?_ | refine ka_ ?_ _)); exact BK176.out) hb)
             have n4_ := M_ (blk_below (g := gb178) (o := .cells #[.int .i64 ((rd_T92 l1 x12_1).f0), .int .i64 ((rd_T92 l1 x12_1).f1), .int .i64 ((rd_T92 l1 x12_1).f2)] 92 (0, 0)) (by (with_reducible repeat (first | refine kn_ ?_ _ | refine kd_ ?_ | refine ka_ ?_ _)); exact BK178.out) hb)
             have n5_ := M_ (below_step (by repeat (first | (with_reducible first | exact HB.out | apply ba_ | apply bn_ | apply b1_ | refine bs_ ?_ GE176.out | refine bs_ ?_ GE178.out) | exact HB.out)) hb)
             clear HO_5
             clear HO181
             clear BK176
             clear BK178
             clear HB
             have HO_5 := n0_
             have HO181 := n1_
             have HO187 := n2_
             have BK176 := n3_
             have BK178 := n4_
             have HB := n5_
             clear n0_ n1_ n2_ n3_ n4_ n5_
             clear hb ho22
             refine hK.out _ _ ⟨(blk_cell BK178.out 0).trans rfl, (blk_cell BK178.out 1).trans rfl, (blk_cell BK178.out 2).trans rfl⟩ (fun hHeld => ?_)
             clear hK K
             refine norm_ (a' := ?_) ?_ ?_
             rotate_left
             ·show Act.put _ (some 20) _ = _
              simp only [Act.put, la_, lb_, lc_, i64_w, i32_w]
              rfl
             refine one_ (i := 2) (N := some 18) #[true, true, true, true, true, false, false] rfl rfl (by kernel_rfl) (by decide) (fun K hK => ?_)
             refine Kd.R_append_rows_step k92 (w0 := w) w.heap.size (by rfl) (.tmp 16) (.tmp 17) 24 92 (.agg #[(.int .i64 0), (.int .i64 0), (.int .i64 0)]) 24 rfl Try.underlying24 info92 rfl (by decide) (by omega) v180 y179 x5_1 _ _ _ (fun k_ => some k_ ≠ (.slice Ao16 x5_1.length co16 : Value).ownBlock ∧ some k_ ≠ (v186 : Value).ownBlock ∧ k_ ≠ gb178) (fun _ => False) rfl rfl ?aO ?aR (fun _ _ h => h) (fun _ h => h.elim) ?aF ?aB ?aS ?aL ?_
             (case aR => repeat (first | exact (Kd.R_reads' HO_5.out).2.2 | (with_reducible refine Kd.C_alloc ?_ _) | (with_reducible refine Kd.C_drewN ?_ _) | (with_reducible refine Kd.C_drew ?_)))
             (case aB => exact (by repeat (first | (with_reducible first | exact HB.out | apply ba_ | apply bn_ | apply b1_ | refine bs_ ?_ GE176.out | refine bs_ ?_ GE178.out) | exact HB.out)))
             (case aF => exact (fun k_ hk => ⟨Kd.fresh' (Kd.R_lt (by (with_reducible repeat (first | apply ra_ | apply rn_ | apply rd_)); exact HO_5.out)) k_ hk, Kd.fresh' (Kd.R_lt (by (with_reducible repeat (first | apply ra_ | apply rn_ | apply rd_)); exact HO187.out)) k_ hk, Kd.freshB (g := gb178) (o := .cells #[.int .i64 ((rd_T92 l1 x12_1).f0), .int .i64 ((rd_T92 l1 x12_1).f1), .int .i64 ((rd_T92 l1 x12_1).f2)] 92 (0, 0)) (by (with_reducible repeat (first | refine kn_ ?_ _ | refine kd_ ?_ | refine ka_ ?_ _)); exact BK178.out) k_ hk⟩))
             (case aO => exact (by (with_reducible repeat (first | apply ra_ | apply rn_ | apply rd_)); exact rm_ HO181.out (fun _ hk => ⟨hk.1.1.2, ⟨hk.2, hk.1.2⟩⟩)))
             (case aS => exact (below_size (by repeat (first | (with_reducible first | exact HB.out | apply ba_ | apply bn_ | apply b1_ | refine bs_ ?_ GE176.out | refine bs_ ?_ GE178.out) | exact HB.out))))
             (case aL => have := LMc7.out; omega)
             intro v183 w23 ho hb hg hat
             rw [← Ny182.out] at ho
             have n0_ := M_ (Kd.R_after (ok := (fun k_ => some k_ ≠ (v186 : Value).ownBlock ∧ k_ ≠ gb178)) (by (with_reducible repeat (first | apply ra_ | apply rn_ | apply rd_)); exact rm_ HO_5.out (fun _ hk => ⟨⟨hk.2, hk.1.1⟩, hk.1.2⟩)) hg hat)
             have n1_ := M_ (blk_grown (g := gb176) (o := .cells #[.slice A0_0 l0_0.length c0_0, .int .i64 a0_1] 59 (0, 0)) (by (with_reducible repeat (first | refine kn_ ?_ _ | refine kd_ ?_ | refine ka_ ?_ _)); exact BK176.out) hg (Kd.R_ne HO181.out BK176.out (by decide)))
             have n2_ := M_ (blk_grown (g := gb178) (o := .cells #[.int .i64 ((rd_T92 l1 x12_1).f0), .int .i64 ((rd_T92 l1 x12_1).f1), .int .i64 ((rd_T92 l1 x12_1).f2)] 92 (0, 0)) (by (with_reducible repeat (first | refine kn_ ?_ _ | refine kd_ ?_ | refine ka_ ?_ _)); exact BK178.out) hg (Kd.R_away HO181.out (fun _ hk => hk.1.2)))
             have n3_ := M_ (Kd.R_after (ok := (fun k_ => some k_ ≠ (.slice Ao16 x5_1.length co16 : Value).ownBlock ∧ k_ ≠ gb178)) (by (with_reducible repeat (first | apply ra_ | apply rn_ | apply rd_)); exact rm_ HO187.out (fun _ hk => ⟨⟨hk.1.1.2, hk.2⟩, hk.1.2⟩)) hg hat)
             have n4_ := M_ (hb)
             have n5_ := M_ (ho)
             clear HO_5
             clear BK176
             clear BK178
             clear HO187
             clear HB
             clear HO181
             have HO_5 := n0_
             have BK176 := n1_
             have BK178 := n2_
             have HO187 := n3_
             have HB := n4_
             have HO184 := n5_
             clear n0_ n1_ n2_ n3_ n4_ n5_
             clear ho hb hg hat
             refine hK.out _ _ ⟨(blk_cell BK178.out 0).trans rfl, (blk_cell BK178.out 1).trans rfl, (blk_cell BK178.out 2).trans rfl⟩ (fun hHeld => ?_)
             clear hK K
             refine norm_ (a' := ?_) ?_ ?_
             rotate_left
             ·show Act.put _ (some 18) _ = _
              simp only [Act.put, la_, lb_, lc_, i64_w, i32_w]
              rfl
             exact norm_ (by simp only [putAll, Act.put, la_, lb_, lc_]) (hCont (v180, v183, v186) _ ⟨hHeld, (by (with_reducible repeat (first | apply ra_ | apply rn_ | apply rd_)); exact rm_ HO184.out (fun _ hk => ⟨hk.2.1, ⟨hk.1, hk.2.2⟩⟩)), (by (with_reducible repeat (first | apply ra_ | apply rn_ | apply rd_)); exact rm_ HO187.out (fun _ hk => ⟨hk.2, ⟨hk.1.1, hk.1.2⟩⟩)), (by (with_reducible repeat (first | apply ra_ | apply rn_ | apply rd_)); exact rm_ HO_5.out (fun _ hk => ⟨hk.2, ⟨hk.1.1, hk.1.2⟩⟩)), (by (with_reducible repeat (first | refine kn_ ?_ _ | refine kd_ ?_ | refine ka_ ?_ _)); exact BK176.out), (by (with_reducible repeat (first | refine kn_ ?_ _ | refine kd_ ?_ | refine ka_ ?_ _)); exact BK178.out), (by repeat (first | (with_reducible first | exact HB.out | apply ba_ | apply bn_ | apply b1_ | refine bs_ ?_ GE176.out | refine bs_ ?_ GE178.out) | exact HB.out))⟩)
           ·skip
            refine Kd.R_lit_step k92 _ 92 ?hg (N := 20) ?hd (xs := ([(⟨(rd_T92 l1 x12_1).f0, (rd_T92 l1 x12_1).f1, (rd_T92 l1 x12_1).f2⟩ : S92)] : List (S92))) (inner := [.int .i64 ((rd_T92 l1 x12_1).f0), .int .i64 ((rd_T92 l1 x12_1).f1), .int .i64 ((rd_T92 l1 x12_1).f2)]) (ok := fun _ => True) (okp := fun _ => True) ?hr ?hp (fun _ hk => hk) trivial (Below.refl _ _) (Nat.le_refl _) (by simp) ?_; (case hd => rfl); (case hg => rfl); (case hr => first | (go_simp; done) | (go_simp; rfl)); (case hp => exact (Reps.c3 (show Kd.M k92 _ _ _ (⟨(rd_T92 l1 x12_1).f0, (rd_T92 l1 x12_1).f1, (rd_T92 l1 x12_1).f2⟩ : S92) [.int .i64 ((rd_T92 l1 x12_1).f0), .int .i64 ((rd_T92 l1 x12_1).f1), .int .i64 ((rd_T92 l1 x12_1).f2)] from (k92_mkM _ _ _ (⟨(rd_T92 l1 x12_1).f0, (rd_T92 l1 x12_1).f1, (rd_T92 l1 x12_1).f2⟩ : S92) )) (Reps.none _ _)))
            intro v186 w19 ho20 hb hg_ hnew_
            clear hg_ hnew_
            (first | rw [← Ny185.out] at ho20 | (simp only [Int.reduceToNat] at ho20; rw [← Ny185.out] at ho20))
            have n0_ := M_ (Kd.R_elder' (by (with_reducible repeat (first | apply ra_ | apply rn_ | apply rd_)); exact HO_5.out) (Kd.R_base ho20) hb)
            have n1_ := M_ (Kd.R_lower (Kd.R_newB (Kd.R_new' ho20 (Kd.R_lt (by (with_reducible repeat (first | apply ra_ | apply rn_ | apply rd_)); exact HO_5.out))) (g := gb178) (o := .cells #[.int .i64 ((rd_T92 l1 x12_1).f0), .int .i64 ((rd_T92 l1 x12_1).f1), .int .i64 ((rd_T92 l1 x12_1).f2)] 92 (0, 0)) (by (with_reducible repeat (first | refine kn_ ?_ _ | refine kd_ ?_ | refine ka_ ?_ _)); exact BK178.out)) (below_size (by repeat (first | (with_reducible first | exact HB.out | apply ba_ | apply bn_ | apply b1_ | refine bs_ ?_ GE176.out | refine bs_ ?_ GE178.out) | exact HB.out))))
            have n2_ := M_ (blk_below (g := gb176) (o := .cells #[.slice A0_0 l0_0.length c0_0, .int .i64 a0_1] 59 (0, 0)) (by (with_reducible repeat (first | refine kn_ ?_ _ | refine kd_ ?_ | refine ka_ ?_ _)); exact BK176.out) hb)
            have n3_ := M_ (blk_below (g := gb178) (o := .cells #[.int .i64 ((rd_T92 l1 x12_1).f0), .int .i64 ((rd_T92 l1 x12_1).f1), .int .i64 ((rd_T92 l1 x12_1).f2)] 92 (0, 0)) (by (with_reducible repeat (first | refine kn_ ?_ _ | refine kd_ ?_ | refine ka_ ?_ _)); exact BK178.out) hb)
            have n4_ := M_ (below_step (by repeat (first | (with_reducible first | exact HB.out | apply ba_ | apply bn_ | apply b1_ | refine bs_ ?_ GE176.out | refine bs_ ?_ GE178.out) | exact HB.out)) hb)
            clear HO_5
            clear BK176
            clear BK178
            clear HB
            have HO_5 := n0_
            have HO187 := n1_
            have BK176 := n2_
            have BK178 := n3_
            have HB := n4_
            clear n0_ n1_ n2_ n3_ n4_
            clear hb ho20
            refine hK.out _ _ ⟨(blk_cell BK178.out 0).trans rfl, (blk_cell BK178.out 1).trans rfl, (blk_cell BK178.out 2).trans rfl⟩ (fun hHeld => ?_)
            clear hK K
            refine norm_ (a' := ?_) ?_ ?_
            rotate_left
            ·show Act.put _ (some 20) _ = _
             simp only [Act.put, la_, lb_, lc_, i64_w, i32_w]
             rfl
            refine one_ (i := 0) (N := some 16) #[true, true, false, true, true, false, false] rfl rfl (by kernel_rfl) (by decide) (fun K hK => ?_)
            refine Kd.R_lit_step k92 _ 92 ?hg (N := 16) ?hd (xs := ([] : List (S92))) (inner := []) (ok := fun _ => True) (okp := fun _ => True) ?hr ?hp (fun _ hk => hk) trivial (Below.refl _ _) (Nat.le_refl _) (by simp) ?_; (case hd => rfl); (case hg => rfl); (case hr => first | (go_simp; done) | (go_simp; rfl)); (case hp => exact (Reps.none _ _))
            intro v180 w21 ho22 hb hg_ hnew_
            clear hg_ hnew_
            (first | rw [← Ny179.out] at ho22 | (simp only [Int.reduceToNat] at ho22; rw [← Ny179.out] at ho22))
            have n0_ := M_ (Kd.R_elder' (by (with_reducible repeat (first | apply ra_ | apply rn_ | apply rd_)); exact HO_5.out) (Kd.R_base ho22) hb)
            have n1_ := M_ (Kd.R_elder' (by (with_reducible repeat (first | apply ra_ | apply rn_ | apply rd_)); exact HO187.out) (Kd.R_base ho22) hb)
            have n2_ := M_ (Kd.R_lower (Kd.R_newB (Kd.R_new' (Kd.R_new' ho22 (Kd.R_lt (by (with_reducible repeat (first | apply ra_ | apply rn_ | apply rd_)); exact HO_5.out))) (Kd.R_lt (by (with_reducible repeat (first | apply ra_ | apply rn_ | apply rd_)); exact HO187.out))) (g := gb178) (o := .cells #[.int .i64 ((rd_T92 l1 x12_1).f0), .int .i64 ((rd_T92 l1 x12_1).f1), .int .i64 ((rd_T92 l1 x12_1).f2)] 92 (0, 0)) (by (with_reducible repeat (first | refine kn_ ?_ _ | refine kd_ ?_ | refine ka_ ?_ _)); exact BK178.out)) (below_size (by repeat (first | (with_reducible first | exact HB.out | apply ba_ | apply bn_ | apply b1_ | refine bs_ ?_ GE176.out | refine bs_ ?_ GE178.out) | exact HB.out))))
            have n3_ := M_ (blk_below (g := gb176) (o := .cells #[.slice A0_0 l0_0.length c0_0, .int .i64 a0_1] 59 (0, 0)) (by (with_reducible repeat (first | refine kn_ ?_ _ | refine kd_ ?_ | refine ka_ ?_ _)); exact BK176.out) hb)
            have n4_ := M_ (blk_below (g := gb178) (o := .cells #[.int .i64 ((rd_T92 l1 x12_1).f0), .int .i64 ((rd_T92 l1 x12_1).f1), .int .i64 ((rd_T92 l1 x12_1).f2)] 92 (0, 0)) (by (with_reducible repeat (first | refine kn_ ?_ _ | refine kd_ ?_ | refine ka_ ?_ _)); exact BK178.out) hb)
            have n5_ := M_ (below_step (by repeat (first | (with_reducible first | exact HB.out | apply ba_ | apply bn_ | apply b1_ | refine bs_ ?_ GE176.out | refine bs_ ?_ GE178.out) | exact HB.out)) hb)
            clear HO_5
            clear HO187
            clear BK176
            clear BK178
            clear HB
            have HO_5 := n0_
            have HO187 := n1_
            have HO181 := n2_
            have BK176 := n3_
            have BK178 := n4_
            have HB := n5_
            clear n0_ n1_ n2_ n3_ n4_ n5_
            clear hb ho22
            refine hK.out _ _ ⟨(blk_cell BK178.out 0).trans rfl, (blk_cell BK178.out 1).trans rfl, (blk_cell BK178.out 2).trans rfl⟩ (fun hHeld => ?_)
            clear hK K
            refine norm_ (a' := ?_) ?_ ?_
            rotate_left
            ·show Act.put _ (some 16) _ = _
             simp only [Act.put, la_, lb_, lc_, i64_w, i32_w]
             rfl
            refine one_ (i := 2) (N := some 18) #[true, true, true, true, true, false, false] rfl rfl (by kernel_rfl) (by decide) (fun K hK => ?_)
            refine Kd.R_append_rows_step k92 (w0 := w) w.heap.size (by rfl) (.tmp 16) (.tmp 17) 24 92 (.agg #[(.int .i64 0), (.int .i64 0), (.int .i64 0)]) 24 rfl Try.underlying24 info92 rfl (by decide) (by omega) v180 y179 x5_1 _ _ _ (fun k_ => some k_ ≠ (.slice Ao16 x5_1.length co16 : Value).ownBlock ∧ some k_ ≠ (v186 : Value).ownBlock ∧ k_ ≠ gb178) (fun _ => False) rfl rfl ?aO ?aR (fun _ _ h => h) (fun _ h => h.elim) ?aF ?aB ?aS ?aL ?_
            (case aR => repeat (first | exact (Kd.R_reads' HO_5.out).2.2 | (with_reducible refine Kd.C_alloc ?_ _) | (with_reducible refine Kd.C_drewN ?_ _) | (with_reducible refine Kd.C_drew ?_)))
            (case aB => exact (by repeat (first | (with_reducible first | exact HB.out | apply ba_ | apply bn_ | apply b1_ | refine bs_ ?_ GE176.out | refine bs_ ?_ GE178.out) | exact HB.out)))
            (case aF => exact (fun k_ hk => ⟨Kd.fresh' (Kd.R_lt (by (with_reducible repeat (first | apply ra_ | apply rn_ | apply rd_)); exact HO_5.out)) k_ hk, Kd.fresh' (Kd.R_lt (by (with_reducible repeat (first | apply ra_ | apply rn_ | apply rd_)); exact HO187.out)) k_ hk, Kd.freshB (g := gb178) (o := .cells #[.int .i64 ((rd_T92 l1 x12_1).f0), .int .i64 ((rd_T92 l1 x12_1).f1), .int .i64 ((rd_T92 l1 x12_1).f2)] 92 (0, 0)) (by (with_reducible repeat (first | refine kn_ ?_ _ | refine kd_ ?_ | refine ka_ ?_ _)); exact BK178.out) k_ hk⟩))
            (case aO => exact (by (with_reducible repeat (first | apply ra_ | apply rn_ | apply rd_)); exact rm_ HO181.out (fun _ hk => ⟨hk.1.1.2, ⟨hk.1.2, hk.2⟩⟩)))
            (case aS => exact (below_size (by repeat (first | (with_reducible first | exact HB.out | apply ba_ | apply bn_ | apply b1_ | refine bs_ ?_ GE176.out | refine bs_ ?_ GE178.out) | exact HB.out))))
            (case aL => have := LMc7.out; omega)
            intro v183 w23 ho hb hg hat
            rw [← Ny182.out] at ho
            have n0_ := M_ (Kd.R_after (ok := (fun k_ => some k_ ≠ (v186 : Value).ownBlock ∧ k_ ≠ gb178)) (by (with_reducible repeat (first | apply ra_ | apply rn_ | apply rd_)); exact rm_ HO_5.out (fun _ hk => ⟨⟨hk.1.2, hk.1.1⟩, hk.2⟩)) hg hat)
            have n1_ := M_ (blk_grown (g := gb176) (o := .cells #[.slice A0_0 l0_0.length c0_0, .int .i64 a0_1] 59 (0, 0)) (by (with_reducible repeat (first | refine kn_ ?_ _ | refine kd_ ?_ | refine ka_ ?_ _)); exact BK176.out) hg (Kd.R_ne HO181.out BK176.out (by decide)))
            have n2_ := M_ (blk_grown (g := gb178) (o := .cells #[.int .i64 ((rd_T92 l1 x12_1).f0), .int .i64 ((rd_T92 l1 x12_1).f1), .int .i64 ((rd_T92 l1 x12_1).f2)] 92 (0, 0)) (by (with_reducible repeat (first | refine kn_ ?_ _ | refine kd_ ?_ | refine ka_ ?_ _)); exact BK178.out) hg (Kd.R_away HO181.out (fun _ hk => hk.2)))
            have n3_ := M_ (Kd.R_after (ok := (fun k_ => some k_ ≠ (.slice Ao16 x5_1.length co16 : Value).ownBlock ∧ k_ ≠ gb178)) (by (with_reducible repeat (first | apply ra_ | apply rn_ | apply rd_)); exact rm_ HO187.out (fun _ hk => ⟨⟨hk.1.1.2, hk.1.2⟩, hk.2⟩)) hg hat)
            have n4_ := M_ (hb)
            have n5_ := M_ (ho)
            clear HO_5
            clear BK176
            clear BK178
            clear HO187
            clear HB
            clear HO181
            have HO_5 := n0_
            have BK176 := n1_
            have BK178 := n2_
            have HO187 := n3_
            have HB := n4_
            have HO184 := n5_
            clear n0_ n1_ n2_ n3_ n4_ n5_
            clear ho hb hg hat
            refine hK.out _ _ ⟨(blk_cell BK178.out 0).trans rfl, (blk_cell BK178.out 1).trans rfl, (blk_cell BK178.out 2).trans rfl⟩ (fun hHeld => ?_)
            clear hK K
            refine norm_ (a' := ?_) ?_ ?_
            rotate_left
            ·show Act.put _ (some 18) _ = _
             simp only [Act.put, la_, lb_, lc_, i64_w, i32_w]
             rfl
            exact norm_ (by simp only [putAll, Act.put, la_, lb_, lc_]) (hCont (v180, v183, v186) _ ⟨hHeld, (by (with_reducible repeat (first | apply ra_ | apply rn_ | apply rd_)); exact rm_ HO184.out (fun _ hk => ⟨hk.2.1, ⟨hk.1, hk.2.2⟩⟩)), (by (with_reducible repeat (first | apply ra_ | apply rn_ | apply rd_)); exact rm_ HO187.out (fun _ hk => ⟨hk.2, ⟨hk.1.1, hk.1.2⟩⟩)), (by (with_reducible repeat (first | apply ra_ | apply rn_ | apply rd_)); exact rm_ HO_5.out (fun _ hk => ⟨hk.2, ⟨hk.1.1, hk.1.2⟩⟩)), (by (with_reducible repeat (first | refine kn_ ?_ _ | refine kd_ ?_ | refine ka_ ?_ _)); exact BK176.out), (by (with_reducible repeat (first | refine kn_ ?_ _ | refine kd_ ?_ | refine ka_ ?_ _)); exact BK178.out), (by repeat (first | (with_reducible first | exact HB.out | apply ba_ | apply bn_ | apply b1_ | refine bs_ ?_ GE176.out | refine bs_ ?_ GE178.out) | exact HB.out))⟩)
          rintro ⟨v180, v183, v186⟩ w24 ⟨hS_, h0_, h1_, h2_, h3_, h4_, h5_⟩
          have n0_ : Aside0 (Kd.R k92 92 w24 w.heap.size (fun k_ => some k_ ≠ (v186 : Value).ownBlock ∧ some k_ ≠ (.slice Ao16 x5_1.length co16 : Value).ownBlock ∧ k_ ≠ gb178) v183 y182) := ⟨h0_⟩
          have n1_ : Aside0 (Kd.R k92 92 w24 w.heap.size (fun k_ => some k_ ≠ (v183 : Value).ownBlock ∧ some k_ ≠ (.slice Ao16 x5_1.length co16 : Value).ownBlock ∧ k_ ≠ gb178) v186 y185) := ⟨h1_⟩
          have n2_ : Aside0 (Kd.R k92 92 w24 w.heap.size (fun k_ => some k_ ≠ (v183 : Value).ownBlock ∧ some k_ ≠ (v186 : Value).ownBlock ∧ k_ ≠ gb178) (.slice Ao16 x5_1.length co16) x5_1) := ⟨h2_⟩
          have n3_ : Aside0 (w24.heap[gb176]? = some (.cells #[.slice A0_0 l0_0.length c0_0, .int .i64 a0_1] 59 (0, 0))) := ⟨h3_⟩
          have n4_ : Aside0 (w24.heap[gb178]? = some (.cells #[.int .i64 ((rd_T92 l1 x12_1).f0), .int .i64 ((rd_T92 l1 x12_1).f1), .int .i64 ((rd_T92 l1 x12_1).f2)] 92 (0, 0))) := ⟨h4_⟩
          have n5_ : Aside0 (Below w.heap.size w w24) := ⟨h5_⟩
          clear HO_5
          clear BK176
          clear BK178
          clear HB
          clear h0_ h1_ h2_ h3_ h4_ h5_
          have HO184 := n0_
          have HO187 := n1_
          have HO_5 := n2_
          have BK176 := n3_
          have BK178 := n4_
          have HB := n5_
          clear n0_ n1_ n2_ n3_ n4_ n5_
          have hHeld : w24.cell? ⟨gb178, 0, none⟩ = some (.int .i64 ((rd_T92 l1 x12_1).f0)) ∧ w24.cell? ⟨gb178, 1, none⟩ = some (.int .i64 ((rd_T92 l1 x12_1).f1)) ∧ w24.cell? ⟨gb178, 2, none⟩ = some (.int .i64 ((rd_T92 l1 x12_1).f2)) := hS_
          obtain ⟨Ao26, co26, eo26⟩ := Kd.R_slice HO187.out
          (first | subst eo26 | (injection eo26 with f1_ f2_ f3_; have f4_ := f1_.symm; have f5_ := f3_.symm; clear f1_ f2_ f3_; subst f4_; subst f5_))
          refine norm_ (a' := ?_) ?_ ?_
          rotate_left
          ·simp only [putAll, Act.put, la_, lb_, lc_]
           rfl
          refine one_ (i := 5) (N := some 21) #[true, true, true, true, true, true, false] rfl rfl (by kernel_rfl) (by decide) (fun K hK => ?_)
          refine Kd.R_append_rows_step k92 (w0 := w) w.heap.size (by rfl) (.tmp 18) (.tmp 20) 24 92 (.agg #[(.int .i64 0), (.int .i64 0), (.int .i64 0)]) 24 rfl Try.underlying24 info92 rfl (by decide) (by omega) v183 y182 y185 _ _ _ (fun k_ => some k_ ≠ (.slice Ao16 x5_1.length co16 : Value).ownBlock ∧ some k_ ≠ (.slice Ao26 y185.length co26 : Value).ownBlock ∧ k_ ≠ gb178) (fun _ => False) rfl rfl ?aO ?aR (fun _ _ h => h) (fun _ h => h.elim) ?aF ?aB ?aS ?aL ?_
          (case aR => repeat (first | exact (Kd.R_reads' HO187.out).2.2 | (with_reducible refine Kd.C_alloc ?_ _) | (with_reducible refine Kd.C_drewN ?_ _) | (with_reducible refine Kd.C_drew ?_)))
          (case aB => exact (by repeat (first | (with_reducible first | exact HB.out | apply ba_ | apply bn_ | apply b1_ | refine bs_ ?_ GE176.out | refine bs_ ?_ GE178.out) | exact HB.out)))
          (case aF => exact (fun k_ hk => ⟨Kd.fresh' (Kd.R_lt (by (with_reducible repeat (first | apply ra_ | apply rn_ | apply rd_)); exact HO_5.out)) k_ hk, Kd.fresh' (Kd.R_lt (by (with_reducible repeat (first | apply ra_ | apply rn_ | apply rd_)); exact HO187.out)) k_ hk, Kd.freshB (g := gb178) (o := .cells #[.int .i64 ((rd_T92 l1 x12_1).f0), .int .i64 ((rd_T92 l1 x12_1).f1), .int .i64 ((rd_T92 l1 x12_1).f2)] 92 (0, 0)) (by (with_reducible repeat (first | refine kn_ ?_ _ | refine kd_ ?_ | refine ka_ ?_ _)); exact BK178.out) k_ hk⟩))
          (case aO => exact (by (with_reducible repeat (first | apply ra_ | apply rn_ | apply rd_)); exact rm_ HO184.out (fun _ hk => ⟨hk.2.1, ⟨hk.1, hk.2.2⟩⟩)))
          (case aS => exact (below_size (by repeat (first | (with_reducible first | exact HB.out | apply ba_ | apply bn_ | apply b1_ | refine bs_ ?_ GE176.out | refine bs_ ?_ GE178.out) | exact HB.out))))
          (case aL => have := LMc8.out; omega)
          intro v189 w25 ho hb hg hat
          rw [← Ny188.out] at ho
          have n0_ := M_ (Kd.R_after (ok := (fun k_ => some k_ ≠ (.slice Ao26 y185.length co26 : Value).ownBlock ∧ k_ ≠ gb178)) (by (with_reducible repeat (first | apply ra_ | apply rn_ | apply rd_)); exact rm_ HO_5.out (fun _ hk => ⟨⟨hk.2.1, hk.2.2⟩, hk.1⟩)) hg hat)
          have n1_ := M_ (blk_grown (g := gb176) (o := .cells #[.slice A0_0 l0_0.length c0_0, .int .i64 a0_1] 59 (0, 0)) (by (with_reducible repeat (first | refine kn_ ?_ _ | refine kd_ ?_ | refine ka_ ?_ _)); exact BK176.out) hg (Kd.R_ne HO184.out BK176.out (by decide)))
          have n2_ := M_ (blk_grown (g := gb178) (o := .cells #[.int .i64 ((rd_T92 l1 x12_1).f0), .int .i64 ((rd_T92 l1 x12_1).f1), .int .i64 ((rd_T92 l1 x12_1).f2)] 92 (0, 0)) (by (with_reducible repeat (first | refine kn_ ?_ _ | refine kd_ ?_ | refine ka_ ?_ _)); exact BK178.out) hg (Kd.R_away HO184.out (fun _ hk => hk.2.2)))
          have n3_ := M_ (Kd.R_after (ok := (fun k_ => some k_ ≠ (.slice Ao16 x5_1.length co16 : Value).ownBlock ∧ k_ ≠ gb178)) (by (with_reducible repeat (first | apply ra_ | apply rn_ | apply rd_)); exact rm_ HO187.out (fun _ hk => ⟨⟨hk.2.1, hk.2.2⟩, hk.1⟩)) hg hat)
          have n4_ := M_ (hb)
          have n5_ := M_ (ho)
          clear HO_5
          clear BK176
          clear BK178
          clear HO187
          clear HB
          clear HO184
          have HO_5 := n0_
          have BK176 := n1_
          have BK178 := n2_
          have HO187 := n3_
          have HB := n4_
          have HO190 := n5_
          clear n0_ n1_ n2_ n3_ n4_ n5_
          clear ho hb hg hat
          refine hK.out _ _ ⟨(blk_cell BK178.out 0).trans rfl, (blk_cell BK178.out 1).trans rfl, (blk_cell BK178.out 2).trans rfl⟩ (fun hHeld => ?_)
          clear hK K
          refine norm_ (a' := ?_) ?_ ?_
          rotate_left
          ·show Act.put _ (some 21) _ = _
           simp only [Act.put, la_, lb_, lc_, i64_w, i32_w]
           rfl
          refine pure_ (i := 6) (N := some 8) (v := ?_) (a' := ?_) #[true, true, true, true, true, true, true] rfl rfl (by kernel_rfl) (fun _ _ _ h => h) (Or.inl ⟨by rfl, ?_⟩) ?_ ?_
          rotate_left
          ·intro w'
           go_simp
           with_reducible rfl
          rotate_left
          ·simp only [Act.put, la_, lb_, lc_, i64_w, i32_w]
           rfl
          refine done_ (by kernel_rfl) ?_
          obtain ⟨Ao27, co27, eo27⟩ := Kd.R_slice HO190.out
          subst eo27
          try go_wp2_with (first | ((with_reducible refine gate_callee (f := 140) rfl ?_); refine goesL_ (some 25) rfl rfl Try.func140 (by kernel_rfl) rfl #[.slice Ao27 y188.length co27, .int .i64 (x5_1.length : Int)] rfl (by (try simp only [List.map_toArray, List.map_cons, List.map_nil]); first | done | rfl | (simp only [List.length_drop, List.length_take]; rfl)) ?_; (with_reducible refine (spec_inLast.calls k1 _ _ y188 (x5_1.length : Int) t191 _ ?side1 ?side2 A9.out).mono ?_); (case side1 => repeat (first | exact (Kd.R_reads' HO190.out).2.2 | (with_reducible refine Kd.C_alloc ?_ _) | (with_reducible refine Kd.C_drewN ?_ _) | (with_reducible refine Kd.C_drew ?_))); (case side2 => exact (Kd.R_reads' HO190.out).2.1); rintro e w' ⟨rfl, ⟨nd, rfl⟩⟩; refine ⟨_, rfl, ?_⟩))
          (try (rw [drewN_self w25]; generalize hq_ : World.drewN w25 _ = w25; have n0_ : Aside0 (Kd.R k92 92 w25 w.heap.size (fun k_ => some k_ ≠ (.slice Ao27 y188.length co27 : Value).ownBlock ∧ some k_ ≠ (.slice Ao16 x5_1.length co16 : Value).ownBlock ∧ k_ ≠ gb178) (.slice Ao26 y185.length co26) y185) := ⟨by rw [← hq_]; exact (by (with_reducible repeat (first | apply ra_ | apply rn_ | apply rd_)); exact rm_ HO187.out (fun _ hk => ⟨hk.2, ⟨hk.1.1, hk.1.2⟩⟩))⟩; have n1_ : Aside0 (Kd.R k92 92 w25 w.heap.size (fun k_ => some k_ ≠ (.slice Ao26 y185.length co26 : Value).ownBlock ∧ some k_ ≠ (.slice Ao16 x5_1.length co16 : Value).ownBlock ∧ k_ ≠ gb178) (.slice Ao27 y188.length co27) y188) := ⟨by rw [← hq_]; exact (by (with_reducible repeat (first | apply ra_ | apply rn_ | apply rd_)); exact rm_ HO190.out (fun _ hk => ⟨hk.2.1, ⟨hk.1, hk.2.2⟩⟩))⟩; have n2_ : Aside0 (Kd.R k92 92 w25 w.heap.size (fun k_ => some k_ ≠ (.slice Ao26 y185.length co26 : Value).ownBlock ∧ some k_ ≠ (.slice Ao27 y188.length co27 : Value).ownBlock ∧ k_ ≠ gb178) (.slice Ao16 x5_1.length co16) x5_1) := ⟨by rw [← hq_]; exact (by (with_reducible repeat (first | apply ra_ | apply rn_ | apply rd_)); exact rm_ HO_5.out (fun _ hk => ⟨hk.1.1, ⟨hk.2, hk.1.2⟩⟩))⟩; have n3_ : Aside0 (w25.heap[gb176]? = some (.cells #[.slice A0_0 l0_0.length c0_0, .int .i64 a0_1] 59 (0, 0))) := ⟨by rw [← hq_]; exact (by (with_reducible repeat (first | refine kn_ ?_ _ | refine kd_ ?_ | refine ka_ ?_ _)); exact BK176.out)⟩; have n4_ : Aside0 (w25.heap[gb178]? = some (.cells #[.int .i64 ((rd_T92 l1 x12_1).f0), .int .i64 ((rd_T92 l1 x12_1).f1), .int .i64 ((rd_T92 l1 x12_1).f2)] 92 (0, 0))) := ⟨by rw [← hq_]; exact (by (with_reducible repeat (first | refine kn_ ?_ _ | refine kd_ ?_ | refine ka_ ?_ _)); exact BK178.out)⟩; have n5_ : Aside0 (Below w.heap.size w w25) := ⟨by rw [← hq_]; exact (by repeat (first | (with_reducible first | exact HB.out | apply ba_ | apply bn_ | apply b1_ | refine bs_ ?_ GE176.out | refine bs_ ?_ GE178.out) | exact HB.out))⟩; clear HO187 HO190 HO_5 BK176 BK178 HB hq_; have HO187 := n0_; have HO190 := n1_; have HO_5 := n2_; have BK176 := n3_; have BK178 := n4_; have HB := n5_; clear n0_ n1_ n2_ n3_ n4_ n5_))
          have n0_ := M_ (rd_ HO_5.out)
          have n1_ := M_ (rd_ HO187.out)
          have n2_ := M_ (rd_ HO190.out)
          have n3_ := M_ (kd_ BK176.out)
          have n4_ := M_ (kd_ BK178.out)
          have n5_ := M_ (b1_ HB.out)
          clear HO_5
          clear HO187
          clear HO190
          clear BK176
          clear BK178
          clear HB
          have HO_5 := n0_
          have HO187 := n1_
          have HO190 := n2_
          have BK176 := n3_
          have BK178 := n4_
          have HB := n5_
          clear n0_ n1_ n2_ n3_ n4_ n5_
          refine start_ (n := 22) (S := fun w' => w'.cell? ⟨gb176, 0, none⟩ = some (.slice A0_0 l0_0.length c0_0) ∧ w'.cell? ⟨gb176, 1, none⟩ = some (.int .i64 a0_1) ∧ w'.cell? ⟨gb178, 0, none⟩ = some (.int .i64 ((rd_T92 l1 x12_1).f0)) ∧ w'.cell? ⟨gb178, 1, none⟩ = some (.int .i64 ((rd_T92 l1 x12_1).f1)) ∧ w'.cell? ⟨gb178, 2, none⟩ = some (.int .i64 ((rd_T92 l1 x12_1).f2))) (ds := []) #[false, false, false, false, false, false, false, false, false, false, false, false, false, false, false, false, false, false, false, false, false, false] (by kernel_rfl) rfl rfl ⟨(blk_cell BK176.out 0).trans rfl, (blk_cell BK176.out 1).trans rfl, (blk_cell BK178.out 0).trans rfl, (blk_cell BK178.out 1).trans rfl, (blk_cell BK178.out 2).trans rfl⟩ (fun hHeld => ?_); refine with_tabW spec_inPart.tab7 spec_inPart.bits7 (fun HT_ HW_ => ?_)
          generalize w25.drew = w28 at HO_5 HO187 HO190 BK176 BK178 HB hHeld ⊢
          refine pure_ (i := 1) (N := some 27) (v := ?_) (a' := ?_) #[false, true, false, false, false, false, false, false, false, false, false, false, false, false, false, false, false, false, false, false, false, false] rfl rfl (any_of HT_.out (by kernel_rfl)) (fun _ _ _ h => h) (Or.inl ⟨by rfl, ?_⟩) ?_ ?_
          rotate_left
          ·intro w'
           go_simp
           with_reducible rfl
          rotate_left
          ·simp only [Act.put, la_, lb_, lc_, i64_w, i32_w]
           rfl
          refine take_ (i := 0) (N := some 26) (v := ?_) (a' := ?_) #[true, true, false, false, false, false, false, false, false, false, false, false, false, false, false, false, false, false, false, false, false, false] rfl rfl (take_ofW HT_.out HW_.out (by kernel_rfl)) (fun _ _ _ h => h) (Or.inl ⟨by rfl, ?_⟩) hHeld ?_ ?_
          rotate_left
          ·rintro w' ⟨s0, s1, s2, s3, s4⟩
           go_simp
           with_reducible rfl
          rotate_left
          ·simp only [Act.put, la_, lb_, lc_, i64_w, i32_w]
           rfl
          refine take_ (i := 2) (N := some 28) (v := ?_) (a' := ?_) #[true, true, true, false, false, false, false, false, false, false, false, false, false, false, false, false, false, false, false, false, false, false] rfl rfl (take_ofW HT_.out HW_.out (by kernel_rfl)) (fun _ _ _ h => h) (Or.inl ⟨by rfl, ?_⟩) hHeld ?_ ?_
          rotate_left
          ·rintro w' ⟨s0, s1, s2, s3, s4⟩
           go_simp
           with_reducible rfl
          rotate_left
          ·simp only [Act.put, la_, lb_, lc_, i64_w, i32_w]
           rfl
          refine one_ (i := 3) (N := some 29) #[true, true, true, true, false, false, false, false, false, false, false, false, false, false, false, false, false, false, false, false, false, false] rfl rfl (one_of HT_.out (by kernel_rfl)) (by decide) (fun K hK => ?_)
          refine goes_ Try.func141 (by kernel_rfl) rfl #[.agg #[.slice A0_0 l0_0.length c0_0, .int .i64 a0_1], .int .i64 ((rd_T92 l1 x12_1).f0)] (by rfl) rfl rfl (by (try simp only [List.map_toArray, List.map_cons, List.map_nil]); first | done | rfl | (simp only [List.length_drop, List.length_take]; rfl)) ?_
          with_reducible refine (spec_inTrack.calls k1 _ _ l0_0 a0_1 ((rd_T92 l1 x12_1).f0) t192 _ ?side1 ?side2 A10.out).mono ?_
          (case side1 => repeat (first | exact (Kd.C_below HR0_0.out HB.out) | (with_reducible refine Kd.C_alloc ?_ _) | (with_reducible refine Kd.C_drewN ?_ _) | (with_reducible refine Kd.C_drew ?_)))
          (case side2 => exact HC0_0.out)
          rintro e w29 ⟨rfl, hb⟩
          refine ⟨_, rfl, ?_⟩
          have n0_ := M_ (rb_ (by (with_reducible repeat (first | apply ra_ | apply rn_ | apply rd_)); exact HO_5.out) hb)
          have n1_ := M_ (rb_ (by (with_reducible repeat (first | apply ra_ | apply rn_ | apply rd_)); exact HO187.out) hb)
          have n2_ := M_ (rb_ (by (with_reducible repeat (first | apply ra_ | apply rn_ | apply rd_)); exact HO190.out) hb)
          have n3_ := M_ (blk_below (g := gb176) (o := .cells #[.slice A0_0 l0_0.length c0_0, .int .i64 a0_1] 59 (0, 0)) (by (with_reducible repeat (first | refine kn_ ?_ _ | refine kd_ ?_ | refine ka_ ?_ _)); exact BK176.out) hb)
          have n4_ := M_ (blk_below (g := gb178) (o := .cells #[.int .i64 ((rd_T92 l1 x12_1).f0), .int .i64 ((rd_T92 l1 x12_1).f1), .int .i64 ((rd_T92 l1 x12_1).f2)] 92 (0, 0)) (by (with_reducible repeat (first | refine kn_ ?_ _ | refine kd_ ?_ | refine ka_ ?_ _)); exact BK178.out) hb)
          have n5_ := M_ (below_step (by repeat (first | (with_reducible first | exact HB.out | apply ba_ | apply bn_ | apply b1_ | refine bs_ ?_ GE176.out | refine bs_ ?_ GE178.out) | exact HB.out)) hb)
          clear HO_5
          clear HO187
          clear HO190
          clear BK176
          clear BK178
          clear HB
          have HO_5 := n0_
          have HO187 := n1_
          have HO190 := n2_
          have BK176 := n3_
          have BK178 := n4_
          have HB := n5_
          clear n0_ n1_ n2_ n3_ n4_ n5_
          (try clear hb)
          (try clear hb2)
          (try clear hk)
          (try clear hi)
          refine hK.out _ _ ⟨(blk_cell BK176.out 0).trans rfl, (blk_cell BK176.out 1).trans rfl, (blk_cell BK178.out 0).trans rfl, (blk_cell BK178.out 1).trans rfl, (blk_cell BK178.out 2).trans rfl⟩ (fun hHeld => ?_)
          clear hK K
          refine norm_ (a' := ?_) ?_ ?_
          rotate_left
          ·show Act.put _ (some 29) _ = _
           simp only [Act.put, la_, lb_, lc_, i64_w, i32_w]
           rfl
          refine pure_ (i := 4) (N := some 30) (v := ?_) (a' := ?_) #[true, true, true, true, true, false, false, false, false, false, false, false, false, false, false, false, false, false, false, false, false, false] rfl rfl (any_of HT_.out (by kernel_rfl)) (fun _ _ _ h => h) (Or.inl ⟨by rfl, ?_⟩) ?_ ?_
          rotate_left
          ·intro w'
           go_simp
           with_reducible rfl
          rotate_left
          ·simp only [Act.put, la_, lb_, lc_, i64_w, i32_w]
           rfl
          refine pure_ (i := 5) (N := some 31) (v := ?_) (a' := ?_) #[true, true, true, true, true, true, false, false, false, false, false, false, false, false, false, false, false, false, false, false, false, false] rfl rfl (any_of HT_.out (by kernel_rfl)) (fun _ _ _ h => h) (Or.inl ⟨by rfl, ?_⟩) ?_ ?_
          rotate_left
          ·intro w'
           go_simp
           with_reducible rfl
          rotate_left
          ·simp only [Act.put, la_, lb_, lc_, i64_w, i32_w]
           rfl
          refine pure_ (i := 6) (N := some 32) (v := ?_) (a' := ?_) #[true, true, true, true, true, true, true, false, false, false, false, false, false, false, false, false, false, false, false, false, false, false] rfl rfl (any_of HT_.out (by kernel_rfl)) (fun _ _ _ h => h) (Or.inl ⟨by rfl, ?_⟩) ?_ ?_
          rotate_left
          ·intro w'
           go_simp
           with_reducible rfl
          rotate_left
          ·simp only [Act.put, la_, lb_, lc_, i64_w, i32_w]
           rfl
          refine pure_ (i := 7) (N := some 33) (v := ?_) (a' := ?_) #[true, true, true, true, true, true, true, true, false, false, false, false, false, false, false, false, false, false, false, false, false, false] rfl rfl (any_of HT_.out (by kernel_rfl)) (fun _ _ _ h => h) (Or.inl ⟨by rfl, ?_⟩) ?_ ?_
          rotate_left
          ·intro w'
           go_simp
           with_reducible rfl
          rotate_left
          ·simp only [Act.put, la_, lb_, lc_, i64_w, i32_w]
           rfl
          refine pure_ (i := 8) (N := some 34) (v := ?_) (a' := ?_) #[true, true, true, true, true, true, true, true, true, false, false, false, false, false, false, false, false, false, false, false, false, false] rfl rfl (any_of HT_.out (by kernel_rfl)) (fun _ _ _ h => h) (Or.inl ⟨by rfl, ?_⟩) ?_ ?_
          rotate_left
          ·intro w'
           go_simp
           with_reducible rfl
          rotate_left
          ·simp only [Act.put, la_, lb_, lc_, i64_w, i32_w]
           rfl
          refine pure_ (i := 9) (N := some 35) (v := undef) (a' := ?_) #[true, true, true, true, true, true, true, true, true, true, false, false, false, false, false, false, false, false, false, false, false, false] rfl rfl (any_of HT_.out (by kernel_rfl)) (fun _ _ _ h => h) (Or.inr ⟨by rfl, rfl⟩) ?_ ?_
          rotate_left
          ·simp only [Act.put, la_, lb_, lc_, i64_w, i32_w]
           rfl
          refine pure_ (i := 10) (N := some 36) (v := undef) (a' := ?_) #[true, true, true, true, true, true, true, true, true, true, true, false, false, false, false, false, false, false, false, false, false, false] rfl rfl (any_of HT_.out (by kernel_rfl)) (fun _ _ _ h => h) (Or.inr ⟨by rfl, rfl⟩) ?_ ?_
          rotate_left
          ·simp only [Act.put, la_, lb_, lc_, i64_w, i32_w]
           rfl
          refine pure_ (i := 11) (N := some 37) (v := undef) (a' := ?_) #[true, true, true, true, true, true, true, true, true, true, true, true, false, false, false, false, false, false, false, false, false, false] rfl rfl (any_of HT_.out (by kernel_rfl)) (fun _ _ _ h => h) (Or.inr ⟨by rfl, rfl⟩) ?_ ?_
          rotate_left
          ·simp only [Act.put, la_, lb_, lc_, i64_w, i32_w]
           rfl
          refine pure_ (i := 12) (N := some 38) (v := undef) (a' := ?_) #[true, true, true, true, true, true, true, true, true, true, true, true, true, false, false, false, false, false, false, false, false, false] rfl rfl (any_of HT_.out (by kernel_rfl)) (fun _ _ _ h => h) (Or.inr ⟨by rfl, rfl⟩) ?_ ?_
          rotate_left
          ·simp only [Act.put, la_, lb_, lc_, i64_w, i32_w]
           rfl
          refine pure_ (i := 13) (N := some 39) (v := undef) (a' := ?_) #[true, true, true, true, true, true, true, true, true, true, true, true, true, true, false, false, false, false, false, false, false, false] rfl rfl (any_of HT_.out (by kernel_rfl)) (fun _ _ _ h => h) (Or.inr ⟨by rfl, rfl⟩) ?_ ?_
          rotate_left
          ·simp only [Act.put, la_, lb_, lc_, i64_w, i32_w]
           rfl
          refine pure_ (i := 14) (N := some 40) (v := undef) (a' := ?_) #[true, true, true, true, true, true, true, true, true, true, true, true, true, true, true, false, false, false, false, false, false, false] rfl rfl (any_of HT_.out (by kernel_rfl)) (fun _ _ _ h => h) (Or.inr ⟨by rfl, rfl⟩) ?_ ?_
          rotate_left
          ·simp only [Act.put, la_, lb_, lc_, i64_w, i32_w]
           rfl
          refine pure_ (i := 15) (N := some 41) (v := undef) (a' := ?_) #[true, true, true, true, true, true, true, true, true, true, true, true, true, true, true, true, false, false, false, false, false, false] rfl rfl (any_of HT_.out (by kernel_rfl)) (fun _ _ _ h => h) (Or.inr ⟨by rfl, rfl⟩) ?_ ?_
          rotate_left
          ·simp only [Act.put, la_, lb_, lc_, i64_w, i32_w]
           rfl
          refine pure_ (i := 16) (N := some 42) (v := undef) (a' := ?_) #[true, true, true, true, true, true, true, true, true, true, true, true, true, true, true, true, true, false, false, false, false, false] rfl rfl (any_of HT_.out (by kernel_rfl)) (fun _ _ _ h => h) (Or.inr ⟨by rfl, rfl⟩) ?_ ?_
          rotate_left
          ·simp only [Act.put, la_, lb_, lc_, i64_w, i32_w]
           rfl
          refine pure_ (i := 17) (N := some 43) (v := undef) (a' := ?_) #[true, true, true, true, true, true, true, true, true, true, true, true, true, true, true, true, true, true, false, false, false, false] rfl rfl (any_of HT_.out (by kernel_rfl)) (fun _ _ _ h => h) (Or.inr ⟨by rfl, rfl⟩) ?_ ?_
          rotate_left
          ·simp only [Act.put, la_, lb_, lc_, i64_w, i32_w]
           rfl
          refine pure_ (i := 18) (N := some 44) (v := undef) (a' := ?_) #[true, true, true, true, true, true, true, true, true, true, true, true, true, true, true, true, true, true, true, false, false, false] rfl rfl (any_of HT_.out (by kernel_rfl)) (fun _ _ _ h => h) (Or.inr ⟨by rfl, rfl⟩) ?_ ?_
          rotate_left
          ·simp only [Act.put, la_, lb_, lc_, i64_w, i32_w]
           rfl
          refine pure_ (i := 19) (N := some 45) (v := undef) (a' := ?_) #[true, true, true, true, true, true, true, true, true, true, true, true, true, true, true, true, true, true, true, true, false, false] rfl rfl (any_of HT_.out (by kernel_rfl)) (fun _ _ _ h => h) (Or.inr ⟨by rfl, rfl⟩) ?_ ?_
          rotate_left
          ·simp only [Act.put, la_, lb_, lc_, i64_w, i32_w]
           rfl
          refine pure_ (i := 20) (N := some 46) (v := ?_) (a' := ?_) #[true, true, true, true, true, true, true, true, true, true, true, true, true, true, true, true, true, true, true, true, true, false] rfl rfl (any_of HT_.out (by kernel_rfl)) (fun _ _ _ h => h) (Or.inl ⟨by rfl, ?_⟩) ?_ ?_
          rotate_left
          ·intro w'
           go_simp
           with_reducible rfl
          rotate_left
          ·simp only [Act.put, la_, lb_, lc_, i64_w, i32_w]
           rfl
          refine pure_ (i := 21) (N := some 47) (v := ?_) (a' := ?_) #[true, true, true, true, true, true, true, true, true, true, true, true, true, true, true, true, true, true, true, true, true, true] rfl rfl (any_of HT_.out (by kernel_rfl)) (fun _ _ _ h => h) (Or.inl ⟨by rfl, ?_⟩) ?_ ?_
          rotate_left
          ·intro w'
           go_simp
           with_reducible rfl
          rotate_left
          ·simp only [Act.put, la_, lb_, lc_, i64_w, i32_w]
           rfl
          refine done_ (done_of HT_.out (by kernel_rfl)) ?_
          try go_wp2
          go_roundg k1
          case measure => have := HK1.out; omega
          case rel => exact ⟨(y188), (wrap64 (x12_1 + 1)), (by first | rfl | (simp; done) | (simp [*]; done)), H', ⟨by have := HK1.out; omega⟩, ⟨by (with_reducible repeat (first | apply ra_ | apply rn_ | apply rd_)); exact rm_ HO190.out (fun _ hk => trivial)⟩, ⟨by (with_reducible repeat (first | refine kn_ ?_ _ | refine kd_ ?_ | refine ka_ ?_ _)); exact BK176.out⟩, ⟨by repeat (first | (with_reducible first | exact HB.out | apply ba_ | apply bn_ | apply b1_ | refine bs_ ?_ GE176.out | refine bs_ ?_ GE178.out) | exact HB.out)⟩⟩
         ·rw [if_neg c12] at H
          have c12b0 : decide (t191 < 0) = false := decide_eq_false c12
          clear c12
          by_cases c30 : 0 ≤ t191
          ·rw [if_pos c30] at H
           have c30b0 : decide (0 ≤ t191) = true := decide_eq_true c30
           clear c30
           by_cases c31 : t191 < (y188.length : Int)
           ·rw [if_pos c31] at H
            have c31b0 : decide (t191 < (y188.length : Int)) = true := decide_eq_true c31
            clear c31
            by_cases c32 : (wrap64 (((rd_T92 l1 x12_1).f1) - ((rd_T92 y188 t191).f1))) ≥ a0_1
            ·rw [if_pos c32] at H
             have c32b0 : decide (a0_1 ≤ (wrap64 (((rd_T92 l1 x12_1).f1) - ((rd_T92 y188 t191).f1)))) = true := decide_eq_true c32
             clear c32
             have H' := M_ H
             clear H
             have p177 : 0 ≤ (x12_1 : Int) := of_decide_eq_true (by first | (with_reducible assumption) | assumption)
             have q177 : x12_1 < (l1.length : Int) := of_decide_eq_true (by first | (with_reducible assumption) | assumption)
             obtain ⟨ad177, e177, hx177_0, hx177_1, hx177_2⟩ := at_T92 HR1.out x12_1 p177 q177
             cases e177
             replace hx177_0 := (HB.out.cell (World.block_lt_of_cell? w _ hx177_0)).trans hx177_0
             replace hx177_1 := (HB.out.cell (World.block_lt_of_cell? w _ hx177_1)).trans hx177_1
             replace hx177_2 := (HB.out.cell (World.block_lt_of_cell? w _ hx177_2)).trans hx177_2
             replace p177 := eq_true p177
             replace q177 := eq_true q177
             try go_wp2_with (first | ((with_reducible refine gate_dst (N := 7) rfl ?_); refine box_event ?hg (N := 7) ?hd (cs := #[.int .i64 0, .int .i64 0, .int .i64 0]) (t := 92) ?hr ?_; (case hd => rfl); (case hg => rfl); (case hr => first | (go_simp; done) | (go_simp; rfl)); intro gb178 hg w33 hbox hb; have n0_ := M_ (rb_ (Kd.R_elderB (by (with_reducible repeat (first | apply ra_ | apply rn_ | apply rd_)); exact HO_5.out) gb178 (Nat.le_of_eq hg.symm)) hb); have n1_ := M_ (blk_below (g := gb176) (o := .cells #[.slice A0_0 l0_0.length c0_0, .int .i64 a0_1] 59 (0, 0)) (by (with_reducible repeat (first | refine kn_ ?_ _ | refine kd_ ?_ | refine ka_ ?_ _)); exact BK176.out) hb); have n2_ := M_ (below_step (by repeat (first | (with_reducible first | exact HB.out | apply ba_ | apply bn_ | apply b1_ | refine bs_ ?_ GE176.out) | exact HB.out)) hb); have n3_ := M_ (hbox); have n4_ := M_ ((by rw [hg]; exact (below_size (by repeat (first | (with_reducible first | exact HB.out | apply ba_ | apply bn_ | apply b1_ | refine bs_ ?_ GE176.out) | exact HB.out))) : w.heap.size ≤ gb178)); have n5_ := M_ ((by rw [hg]; exact (below_size (by repeat (first | (with_reducible first | exact HB.out | apply ba_ | apply bn_ | apply b1_ | refine bs_ ?_ GE176.out) | exact HB.out))) : w.heap.size ≤ gb178)); have n6_ := M_ ((by rw [hg]; exact Nat.ne_of_lt (blk_lt (g := gb176) (o := .cells #[.slice A0_0 l0_0.length c0_0, .int .i64 a0_1] 59 (0, 0)) (by (with_reducible repeat (first | refine kn_ ?_ _ | refine kd_ ?_ | refine ka_ ?_ _)); exact BK176.out)) : gb176 ≠ gb178)); have n7_ := M_ ((by rw [hg]; exact Nat.ne_of_gt (blk_lt (g := gb176) (o := .cells #[.slice A0_0 l0_0.length c0_0, .int .i64 a0_1] 59 (0, 0)) (by (with_reducible repeat (first | refine kn_ ?_ _ | refine kd_ ?_ | refine ka_ ?_ _)); exact BK176.out)) : gb178 ≠ gb176)); clear HO_5; clear BK176; clear HB; have HO_5 := n0_; have BK176 := n1_; have HB := n2_; have BK178 := n3_; have GW178 := n4_; have GE178 := n5_; have NB176_178 := n6_; have NB178_176 := n7_; clear n0_ n1_ n2_ n3_ n4_ n5_ n6_ n7_; clear hb hbox hg; have hnb34 := NB178_176.out; have hnc34 := NB176_178.out; have hcz35_0 : w33.cell? ⟨gb178, 0, none⟩ = some (.int .i64 0) := (blk_cell BK178.out 0).trans rfl; have hcz35_1 : w33.cell? ⟨gb178, 1, none⟩ = some (.int .i64 0) := (blk_cell BK178.out 1).trans rfl; have hcz35_2 : w33.cell? ⟨gb178, 2, none⟩ = some (.int .i64 0) := (blk_cell BK178.out 2).trans rfl; have hfz35_0 := blk_frozen BK178.out 0; have hfz35_1 := blk_frozen BK178.out 1; have hfz35_2 := blk_frozen BK178.out 2; obtain ⟨Ao36, co36, eo36⟩ := Kd.R_slice HO_5.out; subst eo36))
             have n0_ : Aside0 (Kd.R k92 92 (((w33.setCell ⟨gb178, 0, none⟩ (.int .i64 ((rd_T92 l1 x12_1).f0))).setCell ⟨gb178, 1, none⟩ (.int .i64 ((rd_T92 l1 x12_1).f1))).setCell ⟨gb178, 2, none⟩ (.int .i64 ((rd_T92 l1 x12_1).f2))) w.heap.size (fun k_ => k_ ≠ gb178) (.slice Ao36 x5_1.length co36) x5_1) := ⟨by (with_reducible repeat (first | apply ra_ | apply rn_ | apply rd_)); exact rm_ (Kd.R_far (p := ⟨gb178, 2, none⟩) (Kd.R_far (p := ⟨gb178, 1, none⟩) (Kd.R_far (p := ⟨gb178, 0, none⟩) (rm_ HO_5.out (fun k_ hk => (⟨hk, hk.2⟩ : _ ∧ k_ ≠ gb178))) (fun _ hk => hk.2) (.int .i64 ((rd_T92 l1 x12_1).f0))) (fun _ hk => hk.2) (.int .i64 ((rd_T92 l1 x12_1).f1))) (fun _ hk => hk.2) (.int .i64 ((rd_T92 l1 x12_1).f2))) (fun _ hk => hk.1.2)⟩
             have n1_ : Aside0 ((((w33.setCell ⟨gb178, 0, none⟩ (.int .i64 ((rd_T92 l1 x12_1).f0))).setCell ⟨gb178, 1, none⟩ (.int .i64 ((rd_T92 l1 x12_1).f1))).setCell ⟨gb178, 2, none⟩ (.int .i64 ((rd_T92 l1 x12_1).f2))).heap[gb176]? = some (.cells #[.slice A0_0 l0_0.length c0_0, .int .i64 a0_1] 59 (0, 0))) := ⟨by (with_reducible repeat (first | refine kn_ ?_ _ | refine kd_ ?_ | refine ka_ ?_ _)); refine blk_far ?_ NB176_178.out _; (with_reducible repeat (first | refine kn_ ?_ _ | refine kd_ ?_ | refine ka_ ?_ _)); refine blk_far ?_ NB176_178.out _; (with_reducible repeat (first | refine kn_ ?_ _ | refine kd_ ?_ | refine ka_ ?_ _)); refine blk_far ?_ NB176_178.out _; (with_reducible repeat (first | refine kn_ ?_ _ | refine kd_ ?_ | refine ka_ ?_ _)); exact BK176.out⟩
             have n2_ : Aside0 ((((w33.setCell ⟨gb178, 0, none⟩ (.int .i64 ((rd_T92 l1 x12_1).f0))).setCell ⟨gb178, 1, none⟩ (.int .i64 ((rd_T92 l1 x12_1).f1))).setCell ⟨gb178, 2, none⟩ (.int .i64 ((rd_T92 l1 x12_1).f2))).heap[gb178]? = some (.cells #[.int .i64 ((rd_T92 l1 x12_1).f0), .int .i64 ((rd_T92 l1 x12_1).f1), .int .i64 ((rd_T92 l1 x12_1).f2)] 92 (0, 0))) := ⟨by (with_reducible repeat (first | refine kn_ ?_ _ | refine kd_ ?_ | refine ka_ ?_ _)); refine blk_put (cs := #[.int .i64 ((rd_T92 l1 x12_1).f0), .int .i64 ((rd_T92 l1 x12_1).f1), .int .i64 0]) ?_ 2 _ rfl; (with_reducible repeat (first | refine kn_ ?_ _ | refine kd_ ?_ | refine ka_ ?_ _)); refine blk_put (cs := #[.int .i64 ((rd_T92 l1 x12_1).f0), .int .i64 0, .int .i64 0]) ?_ 1 _ rfl; (with_reducible repeat (first | refine kn_ ?_ _ | refine kd_ ?_ | refine ka_ ?_ _)); refine blk_put (cs := #[.int .i64 0, .int .i64 0, .int .i64 0]) ?_ 0 _ rfl; (with_reducible repeat (first | refine kn_ ?_ _ | refine kd_ ?_ | refine ka_ ?_ _)); exact BK178.out⟩
             have n3_ : Aside0 (Below w.heap.size w (((w33.setCell ⟨gb178, 0, none⟩ (.int .i64 ((rd_T92 l1 x12_1).f0))).setCell ⟨gb178, 1, none⟩ (.int .i64 ((rd_T92 l1 x12_1).f1))).setCell ⟨gb178, 2, none⟩ (.int .i64 ((rd_T92 l1 x12_1).f2)))) := ⟨by repeat (first | (with_reducible first | exact HB.out | apply ba_ | apply bn_ | apply b1_ | refine bs_ ?_ GE176.out | refine bs_ ?_ GE178.out) | exact HB.out)⟩
             (try clear HO_5)
             (try clear BK176)
             (try clear BK178)
             (try clear HB)
             generalize (((w33.setCell ⟨gb178, 0, none⟩ (.int .i64 ((rd_T92 l1 x12_1).f0))).setCell ⟨gb178, 1, none⟩ (.int .i64 ((rd_T92 l1 x12_1).f1))).setCell ⟨gb178, 2, none⟩ (.int .i64 ((rd_T92 l1 x12_1).f2))) = w37 at n0_ n1_ n2_ n3_ ⊢
             have HO_5 := n0_
             have BK176 := n1_
             have BK178 := n2_
             have HB := n3_
             clear n0_ n1_ n2_ n3_
             have n0_ := M_ (rd_ HO_5.out)
             have n1_ := M_ (kd_ BK176.out)
             have n2_ := M_ (kd_ BK178.out)
             have n3_ := M_ (b1_ HB.out)
             clear HO_5
             clear BK176
             clear BK178
             clear HB
             have HO_5 := n0_
             have BK176 := n1_
             have BK178 := n2_
             have HB := n3_
             clear n0_ n1_ n2_ n3_
             refine start_ (n := 7) (S := fun w' => w'.cell? ⟨gb178, 0, none⟩ = some (.int .i64 ((rd_T92 l1 x12_1).f0)) ∧ w'.cell? ⟨gb178, 1, none⟩ = some (.int .i64 ((rd_T92 l1 x12_1).f1)) ∧ w'.cell? ⟨gb178, 2, none⟩ = some (.int .i64 ((rd_T92 l1 x12_1).f2))) (ds := []) #[false, false, false, false, false, false, false] (by kernel_rfl) rfl rfl ⟨(blk_cell BK178.out 0).trans rfl, (blk_cell BK178.out 1).trans rfl, (blk_cell BK178.out 2).trans rfl⟩ (fun hHeld => ?_)
             generalize w37.drew = w38 at HO_5 BK176 BK178 HB hHeld ⊢
             refine pure_ (i := 1) (N := some 17) (v := ?_) (a' := ?_) #[false, true, false, false, false, false, false] rfl rfl (by kernel_rfl) (fun _ _ _ h => h) (Or.inl ⟨by rfl, ?_⟩) ?_ ?_
             rotate_left
             ·intro w'
              go_simp
              with_reducible rfl
             rotate_left
             ·simp only [Act.put, la_, lb_, lc_, i64_w, i32_w]
              rfl
             refine take_ (i := 3) (N := some 19) (v := ?_) (a' := ?_) #[false, true, false, true, false, false, false] rfl rfl (by kernel_rfl) (fun _ _ _ h => h) (Or.inl ⟨by rfl, ?_⟩) hHeld ?_ ?_
             rotate_left
             ·rintro w' ⟨s0, s1, s2⟩
              go_simp
              with_reducible rfl
             rotate_left
             ·simp only [Act.put, la_, lb_, lc_, i64_w, i32_w]
              rfl
             refine join_ (σ := Value × Value × Value) 2 #[true, true, true, true, true, false, false] (fun s_ => [(16, s_.1), (18, s_.2.1), (20, s_.2.2)]) (fun s_ w' => (w'.cell? ⟨gb178, 0, none⟩ = some (.int .i64 ((rd_T92 l1 x12_1).f0)) ∧ w'.cell? ⟨gb178, 1, none⟩ = some (.int .i64 ((rd_T92 l1 x12_1).f1)) ∧ w'.cell? ⟨gb178, 2, none⟩ = some (.int .i64 ((rd_T92 l1 x12_1).f2))) ∧ (Kd.R k92 92 w' w.heap.size (fun k_ => some k_ ≠ (s_.2.2 : Value).ownBlock ∧ some k_ ≠ (.slice Ao36 x5_1.length co36 : Value).ownBlock ∧ k_ ≠ gb178) s_.2.1 y182) ∧ (Kd.R k92 92 w' w.heap.size (fun k_ => some k_ ≠ (s_.2.1 : Value).ownBlock ∧ some k_ ≠ (.slice Ao36 x5_1.length co36 : Value).ownBlock ∧ k_ ≠ gb178) s_.2.2 y185) ∧ (Kd.R k92 92 w' w.heap.size (fun k_ => some k_ ≠ (s_.2.1 : Value).ownBlock ∧ some k_ ≠ (s_.2.2 : Value).ownBlock ∧ k_ ≠ gb178) (.slice Ao36 x5_1.length co36) x5_1) ∧ (w'.heap[gb176]? = some (.cells #[.slice A0_0 l0_0.length c0_0, .int .i64 a0_1] 59 (0, 0))) ∧ (w'.heap[gb178]? = some (.cells #[.int .i64 ((rd_T92 l1 x12_1).f0), .int .i64 ((rd_T92 l1 x12_1).f1), .int .i64 ((rd_T92 l1 x12_1).f2)] 92 (0, 0))) ∧ (Below w.heap.size w w')) ?_ ?_
             rotate_left
             ·intro hCont
              refine two_ (i := 0) (j := 4) (Ni := some 16) (Nj := some 20) #[true, true, false, true, false, false, false] #[false, true, false, true, true, false, false] rfl rfl rfl rfl (by kernel_rfl) (by decide) (by decide) (fun K hK => ?_) (fun K hK => ?_)
              ·skip
               refine Kd.R_lit_step k92 _ 92 ?hg (N := 16) ?hd (xs := ([] : List (S92))) (inner := []) (ok := fun _ => True) (okp := fun _ => True) ?hr ?hp (fun _ hk => hk) trivial (Below.refl _ _) (Nat.le_refl _) (by simp) ?_; (case hd => rfl); (case hg => rfl); (case hr => first | (go_simp; done) | (go_simp; rfl)); (case hp => exact (Reps.none _ _))
               intro v180 w39 ho40 hb hg_ hnew_
               clear hg_ hnew_
               (first | rw [← Ny179.out] at ho40 | (simp only [Int.reduceToNat] at ho40; rw [← Ny179.out] at ho40))
               have n0_ := M_ (Kd.R_elder' (by (with_reducible repeat (first | apply ra_ | apply rn_ | apply rd_)); exact HO_5.out) (Kd.R_base ho40) hb)
               have n1_ := M_ (Kd.R_lower (Kd.R_newB (Kd.R_new' ho40 (Kd.R_lt (by (with_reducible repeat (first | apply ra_ | apply rn_ | apply rd_)); exact HO_5.out))) (g := gb178) (o := .cells #[.int .i64 ((rd_T92 l1 x12_1).f0), .int .i64 ((rd_T92 l1 x12_1).f1), .int .i64 ((rd_T92 l1 x12_1).f2)] 92 (0, 0)) (by (with_reducible repeat (first | refine kn_ ?_ _ | refine kd_ ?_ | refine ka_ ?_ _)); exact BK178.out)) (below_size (by repeat (first | (with_reducible first | exact HB.out | apply ba_ | apply bn_ | apply b1_ | refine bs_ ?_ GE176.out | refine bs_ ?_ GE178.out) | exact HB.out))))
               have n2_ := M_ (blk_below (g := gb176) (o := .cells #[.slice A0_0 l0_0.length c0_0, .int .i64 a0_1] 59 (0, 0)) (by (with_reducible repeat (first | refine kn_ ?_ _ | refine kd_ ?_ | refine ka_ ?_ _)); exact BK176.out) hb)
               have n3_ := M_ (blk_below (g := gb178) (o := .cells #[.int .i64 ((rd_T92 l1 x12_1).f0), .int .i64 ((rd_T92 l1 x12_1).f1), .int .i64 ((rd_T92 l1 x12_1).f2)] 92 (0, 0)) (by (with_reducible repeat (first | refine kn_ ?_ _ | refine kd_ ?_ | refine ka_ ?_ _)); exact BK178.out) hb)
               have n4_ := M_ (below_step (by repeat (first | (with_reducible first | exact HB.out | apply ba_ | apply bn_ | apply b1_ | refine bs_ ?_ GE176.out | refine bs_ ?_ GE178.out) | exact HB.out)) hb)
               clear HO_5
               clear BK176
               clear BK178
               clear HB
               have HO_5 := n0_
               have HO181 := n1_
               have BK176 := n2_
               have BK178 := n3_
               have HB := n4_
               clear n0_ n1_ n2_ n3_ n4_
               clear hb ho40
               refine hK.out _ _ ⟨(blk_cell BK178.out 0).trans rfl, (blk_cell BK178.out 1).trans rfl, (blk_cell BK178.out 2).trans rfl⟩ (fun hHeld => ?_)
               clear hK K
               refine norm_ (a' := ?_) ?_ ?_
               rotate_left
               ·show Act.put _ (some 16) _ = _
                simp only [Act.put, la_, lb_, lc_, i64_w, i32_w]
                rfl
               refine two_ (i := 2) (j := 4) (Ni := some 18) (Nj := some 20) #[true, true, true, true, false, false, false] #[true, true, false, true, true, false, false] rfl rfl rfl rfl (by kernel_rfl) (by decide) (by decide) (fun K hK => ?_) (fun K hK => ?_)
               ·skip
                refine Kd.R_append_rows_step k92 (w0 := w) w.heap.size (by rfl) (.tmp 16) (.tmp 17) 24 92 (.agg #[(.int .i64 0), (.int .i64 0), (.int .i64 0)]) 24 rfl Try.underlying24 info92 rfl (by decide) (by omega) v180 y179 x5_1 _ _ _ (fun k_ => some k_ ≠ (.slice Ao36 x5_1.length co36 : Value).ownBlock ∧ k_ ≠ gb178) (fun _ => False) rfl rfl ?aO ?aR (fun _ _ h => h) (fun _ h => h.elim) ?aF ?aB ?aS ?aL ?_
                (case aR => repeat (first | exact (Kd.R_reads' HO_5.out).2.2 | (with_reducible refine Kd.C_alloc ?_ _) | (with_reducible refine Kd.C_drewN ?_ _) | (with_reducible refine Kd.C_drew ?_)))
                (case aB => exact (by repeat (first | (with_reducible first | exact HB.out | apply ba_ | apply bn_ | apply b1_ | refine bs_ ?_ GE176.out | refine bs_ ?_ GE178.out) | exact HB.out)))
                (case aF => exact (fun k_ hk => ⟨Kd.fresh' (Kd.R_lt (by (with_reducible repeat (first | apply ra_ | apply rn_ | apply rd_)); exact HO_5.out)) k_ hk, Kd.freshB (g := gb178) (o := .cells #[.int .i64 ((rd_T92 l1 x12_1).f0), .int .i64 ((rd_T92 l1 x12_1).f1), .int .i64 ((rd_T92 l1 x12_1).f2)] 92 (0, 0)) (by (with_reducible repeat (first | refine kn_ ?_ _ | refine kd_ ?_ | refine ka_ ?_ _)); exact BK178.out) k_ hk⟩))
                (case aO => exact (by (with_reducible repeat (first | apply ra_ | apply rn_ | apply rd_)); first | exact rm_ HO181.out (fun _ hk => ⟨hk.1.2, hk.2⟩) | exact rm_ HO181.out (fun _ hk => by refine ⟨?_, ?_⟩ <;> (first | exact hk.2 | exact hk.2.1 | exact hk.2.2 | exact hk.1.2 | exact hk.1.2.1 | exact hk.1.2.2 | exact hk.1.1.2 | exact hk.1.1.2.1 | exact hk.1.1.2.2 | exact hk.1.1.1.2 | exact hk.1.1.1.2.1 | exact hk.1.1.1.2.2 | exact hk.1.1.1.1.2 | exact hk.1.1.1.1.2.1 | exact hk.1.1.1.1.2.2 | exact hk | exact hk.1 | exact hk.1.1 | exact hk.1.1.1 | exact hk.1.1.1.1 | exact hk.1.1.1.1.1))))
                (case aS => exact (below_size (by repeat (first | (with_reducible first | exact HB.out | apply ba_ | apply bn_ | apply b1_ | refine bs_ ?_ GE176.out | refine bs_ ?_ GE178.out) | exact HB.out))))
                (case aL => have := LMc7.out; omega)
                intro v183 w41 ho hb hg hat
                rw [← Ny182.out] at ho
                have n0_ := M_ (Kd.R_after (ok := (fun k_ => k_ ≠ gb178)) (by (with_reducible repeat (first | apply ra_ | apply rn_ | apply rd_)); exact HO_5.out) hg hat)
                have n1_ := M_ (blk_grown (g := gb176) (o := .cells #[.slice A0_0 l0_0.length c0_0, .int .i64 a0_1] 59 (0, 0)) (by (with_reducible repeat (first | refine kn_ ?_ _ | refine kd_ ?_ | refine ka_ ?_ _)); exact BK176.out) hg (Kd.R_ne HO181.out BK176.out (by decide)))
                have n2_ := M_ (blk_grown (g := gb178) (o := .cells #[.int .i64 ((rd_T92 l1 x12_1).f0), .int .i64 ((rd_T92 l1 x12_1).f1), .int .i64 ((rd_T92 l1 x12_1).f2)] 92 (0, 0)) (by (with_reducible repeat (first | refine kn_ ?_ _ | refine kd_ ?_ | refine ka_ ?_ _)); exact BK178.out) hg (Kd.R_away HO181.out (fun _ hk => hk.2)))
                have n3_ := M_ (hb)
                have n4_ := M_ (ho)
                clear HO_5
                clear BK176
                clear BK178
                clear HB
                clear HO181
                have HO_5 := n0_
                have BK176 := n1_
                have BK178 := n2_
                have HB := n3_
                have HO184 := n4_
                clear n0_ n1_ n2_ n3_ n4_
                clear ho hb hg hat
                refine hK.out _ _ ⟨(blk_cell BK178.out 0).trans rfl, (blk_cell BK178.out 1).trans rfl, (blk_cell BK178.out 2).trans rfl⟩ (fun hHeld => ?_)
                clear hK K
                refine norm_ (a' := ?_) ?_ ?_
                rotate_left
                ·show Act.put _ (some 18) _ = _
                 simp only [Act.put, la_, lb_, lc_, i64_w, i32_w]
                 rfl
                refine one_ (i := 4) (N := some 20) #[true, true, true, true, true, false, false] rfl rfl (by kernel_rfl) (by decide) (fun K hK => ?_)
                refine Kd.R_lit_step k92 _ 92 ?hg (N := 20) ?hd (xs := ([(⟨(rd_T92 l1 x12_1).f0, (rd_T92 l1 x12_1).f1, (rd_T92 l1 x12_1).f2⟩ : S92)] : List (S92))) (inner := [.int .i64 ((rd_T92 l1 x12_1).f0), .int .i64 ((rd_T92 l1 x12_1).f1), .int .i64 ((rd_T92 l1 x12_1).f2)]) (ok := fun _ => True) (okp := fun _ => True) ?hr ?hp (fun _ hk => hk) trivial (Below.refl _ _) (Nat.le_refl _) (by simp) ?_; (case hd => rfl); (case hg => rfl); (case hr => first | (go_simp; done) | (go_simp; rfl)); (case hp => exact (Reps.c3 (show Kd.M k92 _ _ _ (⟨(rd_T92 l1 x12_1).f0, (rd_T92 l1 x12_1).f1, (rd_T92 l1 x12_1).f2⟩ : S92) [.int .i64 ((rd_T92 l1 x12_1).f0), .int .i64 ((rd_T92 l1 x12_1).f1), .int .i64 ((rd_T92 l1 x12_1).f2)] from (k92_mkM _ _ _ (⟨(rd_T92 l1 x12_1).f0, (rd_T92 l1 x12_1).f1, (rd_T92 l1 x12_1).f2⟩ : S92) )) (Reps.none _ _)))
                intro v186 w42 ho43 hb hg_ hnew_
                clear hg_ hnew_
                (first | rw [← Ny185.out] at ho43 | (simp only [Int.reduceToNat] at ho43; rw [← Ny185.out] at ho43))
                have n0_ := M_ (Kd.R_elder' (by (with_reducible repeat (first | apply ra_ | apply rn_ | apply rd_)); exact HO_5.out) (Kd.R_base ho43) hb)
                have n1_ := M_ (Kd.R_elder' (by (with_reducible repeat (first | apply ra_ | apply rn_ | apply rd_)); exact HO184.out) (Kd.R_base ho43) hb)
                have n2_ := M_ (Kd.R_lower (Kd.R_newB (Kd.R_new' (Kd.R_new' ho43 (Kd.R_lt (by (with_reducible repeat (first | apply ra_ | apply rn_ | apply rd_)); exact HO_5.out))) (Kd.R_lt (by (with_reducible repeat (first | apply ra_ | apply rn_ | apply rd_)); exact HO184.out))) (g := gb178) (o := .cells #[.int .i64 ((rd_T92 l1 x12_1).f0), .int .i64 ((rd_T92 l1 x12_1).f1), .int .i64 ((rd_T92 l1 x12_1).f2)] 92 (0, 0)) (by (with_reducible repeat (first | refine kn_ ?_ _ | refine kd_ ?_ | refine ka_ ?_ _)); exact BK178.out)) (below_size (by repeat (first | (with_reducible first | exact HB.out | apply ba_ | apply bn_ | apply b1_ | refine bs_ ?_ GE176.out | refine bs_ ?_ GE178.out) | exact HB.out))))
                have n3_ := M_ (blk_below (g := gb176) (o := .cells #[.slice A0_0 l0_0.length c0_0, .int .i64 a0_1] 59 (0, 0)) (by (with_reducible repeat (first | refine kn_ ?_ _ | refine kd_ ?_ | refine ka_ ?_ _)); exact BK176.out) hb)
                have n4_ := M_ (blk_below (g := gb178) (o := .cells #[.int .i64 ((rd_T92 l1 x12_1).f0), .int .i64 ((rd_T92 l1 x12_1).f1), .int .i64 ((rd_T92 l1 x12_1).f2)] 92 (0, 0)) (by (with_reducible repeat (first | refine kn_ ?_ _ | refine kd_ ?_ | refine ka_ ?_ _)); exact BK178.out) hb)
                have n5_ := M_ (below_step (by repeat (first | (with_reducible first | exact HB.out | apply ba_ | apply bn_ | apply b1_ | refine bs_ ?_ GE176.out | refine bs_ ?_ GE178.out) | exact HB.out)) hb)
                clear HO_5
                clear HO184
                clear BK176
                clear BK178
                clear HB
                have HO_5 := n0_
                have HO184 := n1_
                have HO187 := n2_
                have BK176 := n3_
                have BK178 := n4_
                have HB := n5_
                clear n0_ n1_ n2_ n3_ n4_ n5_
                clear hb ho43
                refine hK.out _ _ ⟨(blk_cell BK178.out 0).trans rfl, (blk_cell BK178.out 1).trans rfl, (blk_cell BK178.out 2).trans rfl⟩ (fun hHeld => ?_)
                clear hK K
                refine norm_ (a' := ?_) ?_ ?_
                rotate_left
                ·show Act.put _ (some 20) _ = _
                 simp only [Act.put, la_, lb_, lc_, i64_w, i32_w]
                 rfl
                exact norm_ (by simp only [putAll, Act.put, la_, lb_, lc_]) (hCont (v180, v183, v186) _ ⟨hHeld, (by (with_reducible repeat (first | apply ra_ | apply rn_ | apply rd_)); exact rm_ HO184.out (fun _ hk => ⟨hk.2, ⟨hk.1.1, hk.1.2⟩⟩)), (by (with_reducible repeat (first | apply ra_ | apply rn_ | apply rd_)); exact rm_ HO187.out (fun _ hk => ⟨hk.1.2, ⟨hk.1.1.2, hk.2⟩⟩)), (by (with_reducible repeat (first | apply ra_ | apply rn_ | apply rd_)); exact rm_ HO_5.out (fun _ hk => ⟨hk.1.2, ⟨hk.2, hk.1.1⟩⟩)), (by (with_reducible repeat (first | refine kn_ ?_ _ | refine kd_ ?_ | refine ka_ ?_ _)); exact BK176.out), (by (with_reducible repeat (first | refine kn_ ?_ _ | refine kd_ ?_ | refine ka_ ?_ _)); exact BK178.out), (by repeat (first | (with_reducible first | exact HB.out | apply ba_ | apply bn_ | apply b1_ | refine bs_ ?_ GE176.out | refine bs_ ?_ GE178.out) | exact HB.out))⟩)
               ·skip
                refine Kd.R_lit_step k92 _ 92 ?hg (N := 20) ?hd (xs := ([(⟨(rd_T92 l1 x12_1).f0, (rd_T92 l1 x12_1).f1, (rd_T92 l1 x12_1).f2⟩ : S92)] : List (S92))) (inner := [.int .i64 ((rd_T92 l1 x12_1).f0), .int .i64 ((rd_T92 l1 x12_1).f1), .int .i64 ((rd_T92 l1 x12_1).f2)]) (ok := fun _ => True) (okp := fun _ => True) ?hr ?hp (fun _ hk => hk) trivial (Below.refl _ _) (Nat.le_refl _) (by simp) ?_; (case hd => rfl); (case hg => rfl); (case hr => first | (go_simp; done) | (go_simp; rfl)); (case hp => exact (Reps.c3 (show Kd.M k92 _ _ _ (⟨(rd_T92 l1 x12_1).f0, (rd_T92 l1 x12_1).f1, (rd_T92 l1 x12_1).f2⟩ : S92) [.int .i64 ((rd_T92 l1 x12_1).f0), .int .i64 ((rd_T92 l1 x12_1).f1), .int .i64 ((rd_T92 l1 x12_1).f2)] from (k92_mkM _ _ _ (⟨(rd_T92 l1 x12_1).f0, (rd_T92 l1 x12_1).f1, (rd_T92 l1 x12_1).f2⟩ : S92) )) (Reps.none _ _)))
                intro v186 w41 ho42 hb hg_ hnew_
                clear hg_ hnew_
                (first | rw [← Ny185.out] at ho42 | (simp only [Int.reduceToNat] at ho42; rw [← Ny185.out] at ho42))
                have n0_ := M_ (Kd.R_elder' (by (with_reducible repeat (first | apply ra_ | apply rn_ | apply rd_)); exact HO_5.out) (Kd.R_base ho42) hb)
                have n1_ := M_ (Kd.R_elder' (by (with_reducible repeat (first | apply ra_ | apply rn_ | apply rd_)); exact HO181.out) (Kd.R_base ho42) hb)
                have n2_ := M_ (Kd.R_lower (Kd.R_newB (Kd.R_new' (Kd.R_new' ho42 (Kd.R_lt (by (with_reducible repeat (first | apply ra_ | apply rn_ | apply rd_)); exact HO_5.out))) (Kd.R_lt (by (with_reducible repeat (first | apply ra_ | apply rn_ | apply rd_)); exact HO181.out))) (g := gb178) (o := .cells #[.int .i64 ((rd_T92 l1 x12_1).f0), .int .i64 ((rd_T92 l1 x12_1).f1), .int .i64 ((rd_T92 l1 x12_1).f2)] 92 (0, 0)) (by (with_reducible repeat (first | refine kn_ ?_ _ | refine kd_ ?_ | refine ka_ ?_ _)); exact BK178.out)) (below_size (by repeat (first | (with_reducible first | exact HB.out | apply ba_ | apply bn_ | apply b1_ | refine bs_ ?_ GE176.out | refine bs_ ?_ GE178.out) | exact HB.out))))
                have n3_ := M_ (blk_below (g := gb176) (o := .cells #[.slice A0_0 l0_0.length c0_0, .int .i64 a0_1] 59 (0, 0)) (by (with_reducible repeat (first | refine kn_ ?_ _ | refine kd_ ?_ | refine ka_ ?_ _)); exact BK176.out) hb)
                have n4_ := M_ (blk_below (g := gb178) (o := .cells #[.int .i64 ((rd_T92 l1 x12_1).f0), .int .i64 ((rd_T92 l1 x12_1).f1), .int .i64 ((rd_T92 l1 x12_1).f2)] 92 (0, 0)) (by (with_reducible repeat (first | refine kn_ ?_ _ | refine kd_ ?_ | refine ka_ ?_ _)); exact BK178.out) hb)
                have n5_ := M_ (below_step (by repeat (first | (with_reducible first | exact HB.out | apply ba_ | apply bn_ | apply b1_ | refine bs_ ?_ GE176.out | refine bs_ ?_ GE178.out) | exact HB.out)) hb)
                clear HO_5
                clear HO181
                clear BK176
                clear BK178
                clear HB
                have HO_5 := n0_
                have HO181 := n1_
                have HO187 := n2_
                have BK176 := n3_
                have BK178 := n4_
                have HB := n5_
                clear n0_ n1_ n2_ n3_ n4_ n5_
                clear hb ho42
                refine hK.out _ _ ⟨(blk_cell BK178.out 0).trans rfl, (blk_cell BK178.out 1).trans rfl, (blk_cell BK178.out 2).trans rfl⟩ (fun hHeld => ?_)
                clear hK K
                refine norm_ (a' := ?_) ?_ ?_
                rotate_left
                ·show Act.put _ (some 20) _ = _
                 simp only [Act.put, la_, lb_, lc_, i64_w, i32_w]
                 rfl
                refine one_ (i := 2) (N := some 18) #[true, true, true, true, true, false, false] rfl rfl (by kernel_rfl) (by decide) (fun K hK => ?_)
                refine Kd.R_append_rows_step k92 (w0 := w) w.heap.size (by rfl) (.tmp 16) (.tmp 17) 24 92 (.agg #[(.int .i64 0), (.int .i64 0), (.int .i64 0)]) 24 rfl Try.underlying24 info92 rfl (by decide) (by omega) v180 y179 x5_1 _ _ _ (fun k_ => some k_ ≠ (.slice Ao36 x5_1.length co36 : Value).ownBlock ∧ some k_ ≠ (v186 : Value).ownBlock ∧ k_ ≠ gb178) (fun _ => False) rfl rfl ?aO ?aR (fun _ _ h => h) (fun _ h => h.elim) ?aF ?aB ?aS ?aL ?_
                (case aR => repeat (first | exact (Kd.R_reads' HO_5.out).2.2 | (with_reducible refine Kd.C_alloc ?_ _) | (with_reducible refine Kd.C_drewN ?_ _) | (with_reducible refine Kd.C_drew ?_)))
                (case aB => exact (by repeat (first | (with_reducible first | exact HB.out | apply ba_ | apply bn_ | apply b1_ | refine bs_ ?_ GE176.out | refine bs_ ?_ GE178.out) | exact HB.out)))
                (case aF => exact (fun k_ hk => ⟨Kd.fresh' (Kd.R_lt (by (with_reducible repeat (first | apply ra_ | apply rn_ | apply rd_)); exact HO_5.out)) k_ hk, Kd.fresh' (Kd.R_lt (by (with_reducible repeat (first | apply ra_ | apply rn_ | apply rd_)); exact HO187.out)) k_ hk, Kd.freshB (g := gb178) (o := .cells #[.int .i64 ((rd_T92 l1 x12_1).f0), .int .i64 ((rd_T92 l1 x12_1).f1), .int .i64 ((rd_T92 l1 x12_1).f2)] 92 (0, 0)) (by (with_reducible repeat (first | refine kn_ ?_ _ | refine kd_ ?_ | refine ka_ ?_ _)); exact BK178.out) k_ hk⟩))
                (case aO => exact (by (with_reducible repeat (first | apply ra_ | apply rn_ | apply rd_)); exact rm_ HO181.out (fun _ hk => ⟨hk.1.1.2, ⟨hk.2, hk.1.2⟩⟩)))
                (case aS => exact (below_size (by repeat (first | (with_reducible first | exact HB.out | apply ba_ | apply bn_ | apply b1_ | refine bs_ ?_ GE176.out | refine bs_ ?_ GE178.out) | exact HB.out))))
                (case aL => have := LMc7.out; omega)
                intro v183 w43 ho hb hg hat
                rw [← Ny182.out] at ho
                have n0_ := M_ (Kd.R_after (ok := (fun k_ => some k_ ≠ (v186 : Value).ownBlock ∧ k_ ≠ gb178)) (by (with_reducible repeat (first | apply ra_ | apply rn_ | apply rd_)); exact rm_ HO_5.out (fun _ hk => ⟨⟨hk.2, hk.1.1⟩, hk.1.2⟩)) hg hat)
                have n1_ := M_ (blk_grown (g := gb176) (o := .cells #[.slice A0_0 l0_0.length c0_0, .int .i64 a0_1] 59 (0, 0)) (by (with_reducible repeat (first | refine kn_ ?_ _ | refine kd_ ?_ | refine ka_ ?_ _)); exact BK176.out) hg (Kd.R_ne HO181.out BK176.out (by decide)))
                have n2_ := M_ (blk_grown (g := gb178) (o := .cells #[.int .i64 ((rd_T92 l1 x12_1).f0), .int .i64 ((rd_T92 l1 x12_1).f1), .int .i64 ((rd_T92 l1 x12_1).f2)] 92 (0, 0)) (by (with_reducible repeat (first | refine kn_ ?_ _ | refine kd_ ?_ | refine ka_ ?_ _)); exact BK178.out) hg (Kd.R_away HO181.out (fun _ hk => hk.1.2)))
                have n3_ := M_ (Kd.R_after (ok := (fun k_ => some k_ ≠ (.slice Ao36 x5_1.length co36 : Value).ownBlock ∧ k_ ≠ gb178)) (by (with_reducible repeat (first | apply ra_ | apply rn_ | apply rd_)); exact rm_ HO187.out (fun _ hk => ⟨⟨hk.1.1.2, hk.2⟩, hk.1.2⟩)) hg hat)
                have n4_ := M_ (hb)
                have n5_ := M_ (ho)
                clear HO_5
                clear BK176
                clear BK178
                clear HO187
                clear HB
                clear HO181
                have HO_5 := n0_
                have BK176 := n1_
                have BK178 := n2_
                have HO187 := n3_
                have HB := n4_
                have HO184 := n5_
                clear n0_ n1_ n2_ n3_ n4_ n5_
                clear ho hb hg hat
                refine hK.out _ _ ⟨(blk_cell BK178.out 0).trans rfl, (blk_cell BK178.out 1).trans rfl, (blk_cell BK178.out 2).trans rfl⟩ (fun hHeld => ?_)
                clear hK K
                refine norm_ (a' := ?_) ?_ ?_
                rotate_left
                ·show Act.put _ (some 18) _ = _
                 simp only [Act.put, la_, lb_, lc_, i64_w, i32_w]
                 rfl
                exact norm_ (by simp only [putAll, Act.put, la_, lb_, lc_]) (hCont (v180, v183, v186) _ ⟨hHeld, (by (with_reducible repeat (first | apply ra_ | apply rn_ | apply rd_)); exact rm_ HO184.out (fun _ hk => ⟨hk.2.1, ⟨hk.1, hk.2.2⟩⟩)), (by (with_reducible repeat (first | apply ra_ | apply rn_ | apply rd_)); exact rm_ HO187.out (fun _ hk => ⟨hk.2, ⟨hk.1.1, hk.1.2⟩⟩)), (by (with_reducible repeat (first | apply ra_ | apply rn_ | apply rd_)); exact rm_ HO_5.out (fun _ hk => ⟨hk.2, ⟨hk.1.1, hk.1.2⟩⟩)), (by (with_reducible repeat (first | refine kn_ ?_ _ | refine kd_ ?_ | refine ka_ ?_ _)); exact BK176.out), (by (with_reducible repeat (first | refine kn_ ?_ _ | refine kd_ ?_ | refine ka_ ?_ _)); exact BK178.out), (by repeat (first | (with_reducible first | exact HB.out | apply ba_ | apply bn_ | apply b1_ | refine bs_ ?_ GE176.out | refine bs_ ?_ GE178.out) | exact HB.out))⟩)
              ·skip
               refine Kd.R_lit_step k92 _ 92 ?hg (N := 20) ?hd (xs := ([(⟨(rd_T92 l1 x12_1).f0, (rd_T92 l1 x12_1).f1, (rd_T92 l1 x12_1).f2⟩ : S92)] : List (S92))) (inner := [.int .i64 ((rd_T92 l1 x12_1).f0), .int .i64 ((rd_T92 l1 x12_1).f1), .int .i64 ((rd_T92 l1 x12_1).f2)]) (ok := fun _ => True) (okp := fun _ => True) ?hr ?hp (fun _ hk => hk) trivial (Below.refl _ _) (Nat.le_refl _) (by simp) ?_; (case hd => rfl); (case hg => rfl); (case hr => first | (go_simp; done) | (go_simp; rfl)); (case hp => exact (Reps.c3 (show Kd.M k92 _ _ _ (⟨(rd_T92 l1 x12_1).f0, (rd_T92 l1 x12_1).f1, (rd_T92 l1 x12_1).f2⟩ : S92) [.int .i64 ((rd_T92 l1 x12_1).f0), .int .i64 ((rd_T92 l1 x12_1).f1), .int .i64 ((rd_T92 l1 x12_1).f2)] from (k92_mkM _ _ _ (⟨(rd_T92 l1 x12_1).f0, (rd_T92 l1 x12_1).f1, (rd_T92 l1 x12_1).f2⟩ : S92) )) (Reps.none _ _)))
               intro v186 w39 ho40 hb hg_ hnew_
               clear hg_ hnew_
               (first | rw [← Ny185.out] at ho40 | (simp only [Int.reduceToNat] at ho40; rw [← Ny185.out] at ho40))
               have n0_ := M_ (Kd.R_elder' (by (with_reducible repeat (first | apply ra_ | apply rn_ | apply rd_)); exact HO_5.out) (Kd.R_base ho40) hb)
               have n1_ := M_ (Kd.R_lower (Kd.R_newB (Kd.R_new' ho40 (Kd.R_lt (by (with_reducible repeat (first | apply ra_ | apply rn_ | apply rd_)); exact HO_5.out))) (g := gb178) (o := .cells #[.int .i64 ((rd_T92 l1 x12_1).f0), .int .i64 ((rd_T92 l1 x12_1).f1), .int .i64 ((rd_T92 l1 x12_1).f2)] 92 (0, 0)) (by (with_reducible repeat (first | refine kn_ ?_ _ | refine kd_ ?_ | refine ka_ ?_ _)); exact BK178.out)) (below_size (by repeat (first | (with_reducible first | exact HB.out | apply ba_ | apply bn_ | apply b1_ | refine bs_ ?_ GE176.out | refine bs_ ?_ GE178.out) | exact HB.out))))
               have n2_ := M_ (blk_below (g := gb176) (o := .cells #[.slice A0_0 l0_0.length c0_0, .int .i64 a0_1] 59 (0, 0)) (by (with_reducible repeat (first | refine kn_ ?_ _ | refine kd_ ?_ | refine ka_ ?_ _)); exact BK176.out) hb)
               have n3_ := M_ (blk_below (g := gb178) (o := .cells #[.int .i64 ((rd_T92 l1 x12_1).f0), .int .i64 ((rd_T92 l1 x12_1).f1), .int .i64 ((rd_T92 l1 x12_1).f2)] 92 (0, 0)) (by (with_reducible repeat (first | refine kn_ ?_ _ | refine kd_ ?_ | refine ka_ ?_ _)); exact BK178.out) hb)
               have n4_ := M_ (below_step (by repeat (first | (with_reducible first | exact HB.out | apply ba_ | apply bn_ | apply b1_ | refine bs_ ?_ GE176.out | refine bs_ ?_ GE178.out) | exact HB.out)) hb)
               clear HO_5
               clear BK176
               clear BK178
               clear HB
               have HO_5 := n0_
               have HO187 := n1_
               have BK176 := n2_
               have BK178 := n3_
               have HB := n4_
               clear n0_ n1_ n2_ n3_ n4_
               clear hb ho40
               refine hK.out _ _ ⟨(blk_cell BK178.out 0).trans rfl, (blk_cell BK178.out 1).trans rfl, (blk_cell BK178.out 2).trans rfl⟩ (fun hHeld => ?_)
               clear hK K
               refine norm_ (a' := ?_) ?_ ?_
               rotate_left
               ·show Act.put _ (some 20) _ = _
                simp only [Act.put, la_, lb_, lc_, i64_w, i32_w]
                rfl
               refine one_ (i := 0) (N := some 16) #[true, true, false, true, true, false, false] rfl rfl (by kernel_rfl) (by decide) (fun K hK => ?_)
               refine Kd.R_lit_step k92 _ 92 ?hg (N := 16) ?hd (xs := ([] : List (S92))) (inner := []) (ok := fun _ => True) (okp := fun _ => True) ?hr ?hp (fun _ hk => hk) trivial (Below.refl _ _) (Nat.le_refl _) (by simp) ?_; (case hd => rfl); (case hg => rfl); (case hr => first | (go_simp; done) | (go_simp; rfl)); (case hp => exact (Reps.none _ _))
               intro v180 w41 ho42 hb hg_ hnew_
               clear hg_ hnew_
               (first | rw [← Ny179.out] at ho42 | (simp only [Int.reduceToNat] at ho42; rw [← Ny179.out] at ho42))
               have n0_ := M_ (Kd.R_elder' (by (with_reducible repeat (first | apply ra_ | apply rn_ | apply rd_)); exact HO_5.out) (Kd.R_base ho42) hb)
               have n1_ := M_ (Kd.R_elder' (by (with_reducible repeat (first | apply ra_ | apply rn_ | apply rd_)); exact HO187.out) (Kd.R_base ho42) hb)
               have n2_ := M_ (Kd.R_lower (Kd.R_newB (Kd.R_new' (Kd.R_new' ho42 (Kd.R_lt (by (with_reducible repeat (first | apply ra_ | apply rn_ | apply rd_)); exact HO_5.out))) (Kd.R_lt (by (with_reducible repeat (first | apply ra_ | apply rn_ | apply rd_)); exact HO187.out))) (g := gb178) (o := .cells #[.int .i64 ((rd_T92 l1 x12_1).f0), .int .i64 ((rd_T92 l1 x12_1).f1), .int .i64 ((rd_T92 l1 x12_1).f2)] 92 (0, 0)) (by (with_reducible repeat (first | refine kn_ ?_ _ | refine kd_ ?_ | refine ka_ ?_ _)); exact BK178.out)) (below_size (by repeat (first | (with_reducible first | exact HB.out | apply ba_ | apply bn_ | apply b1_ | refine bs_ ?_ GE176.out | refine bs_ ?_ GE178.out) | exact HB.out))))
               have n3_ := M_ (blk_below (g := gb176) (o := .cells #[.slice A0_0 l0_0.length c0_0, .int .i64 a0_1] 59 (0, 0)) (by (with_reducible repeat (first | refine kn_ ?_ _ | refine kd_ ?_ | refine ka_ ?_ _)); exact BK176.out) hb)
               have n4_ := M_ (blk_below (g := gb178) (o := .cells #[.int .i64 ((rd_T92 l1 x12_1).f0), .int .i64 ((rd_T92 l1 x12_1).f1), .int .i64 ((rd_T92 l1 x12_1).f2)] 92 (0, 0)) (by (with_reducible repeat (first | refine kn_ ?_ _ | refine kd_ ?_ | refine ka_ ?_ _)); exact BK178.out) hb)
               have n5_ := M_ (below_step (by repeat (first | (with_reducible first | exact HB.out | apply ba_ | apply bn_ | apply b1_ | refine bs_ ?_ GE176.out | refine bs_ ?_ GE178.out) | exact HB.out)) hb)
               clear HO_5
               clear HO187
               clear BK176
               clear BK178
               clear HB
               have HO_5 := n0_
               have HO187 := n1_
               have HO181 := n2_
               have BK176 := n3_
               have BK178 := n4_
               have HB := n5_
               clear n0_ n1_ n2_ n3_ n4_ n5_
               clear hb ho42
               refine hK.out _ _ ⟨(blk_cell BK178.out 0).trans rfl, (blk_cell BK178.out 1).trans rfl, (blk_cell BK178.out 2).trans rfl⟩ (fun hHeld => ?_)
               clear hK K
               refine norm_ (a' := ?_) ?_ ?_
               rotate_left
               ·show Act.put _ (some 16) _ = _
                simp only [Act.put, la_, lb_, lc_, i64_w, i32_w]
                rfl
               refine one_ (i := 2) (N := some 18) #[true, true, true, true, true, false, false] rfl rfl (by kernel_rfl) (by decide) (fun K hK => ?_)
               refine Kd.R_append_rows_step k92 (w0 := w) w.heap.size (by rfl) (.tmp 16) (.tmp 17) 24 92 (.agg #[(.int .i64 0), (.int .i64 0), (.int .i64 0)]) 24 rfl Try.underlying24 info92 rfl (by decide) (by omega) v180 y179 x5_1 _ _ _ (fun k_ => some k_ ≠ (.slice Ao36 x5_1.length co36 : Value).ownBlock ∧ some k_ ≠ (v186 : Value).ownBlock ∧ k_ ≠ gb178) (fun _ => False) rfl rfl ?aO ?aR (fun _ _ h => h) (fun _ h => h.elim) ?aF ?aB ?aS ?aL ?_
               (case aR => repeat (first | exact (Kd.R_reads' HO_5.out).2.2 | (with_reducible refine Kd.C_alloc ?_ _) | (with_reducible refine Kd.C_drewN ?_ _) | (with_reducible refine Kd.C_drew ?_)))
               (case aB => exact (by repeat (first | (with_reducible first | exact HB.out | apply ba_ | apply bn_ | apply b1_ | refine bs_ ?_ GE176.out | refine bs_ ?_ GE178.out) | exact HB.out)))
               (case aF => exact (fun k_ hk => ⟨Kd.fresh' (Kd.R_lt (by (with_reducible repeat (first | apply ra_ | apply rn_ | apply rd_)); exact HO_5.out)) k_ hk, Kd.fresh' (Kd.R_lt (by (with_reducible repeat (first | apply ra_ | apply rn_ | apply rd_)); exact HO187.out)) k_ hk, Kd.freshB (g := gb178) (o := .cells #[.int .i64 ((rd_T92 l1 x12_1).f0), .int .i64 ((rd_T92 l1 x12_1).f1), .int .i64 ((rd_T92 l1 x12_1).f2)] 92 (0, 0)) (by (with_reducible repeat (first | refine kn_ ?_ _ | refine kd_ ?_ | refine ka_ ?_ _)); exact BK178.out) k_ hk⟩))
               (case aO => exact (by (with_reducible repeat (first | apply ra_ | apply rn_ | apply rd_)); exact rm_ HO181.out (fun _ hk => ⟨hk.1.1.2, ⟨hk.1.2, hk.2⟩⟩)))
               (case aS => exact (below_size (by repeat (first | (with_reducible first | exact HB.out | apply ba_ | apply bn_ | apply b1_ | refine bs_ ?_ GE176.out | refine bs_ ?_ GE178.out) | exact HB.out))))
               (case aL => have := LMc7.out; omega)
               intro v183 w43 ho hb hg hat
               rw [← Ny182.out] at ho
               have n0_ := M_ (Kd.R_after (ok := (fun k_ => some k_ ≠ (v186 : Value).ownBlock ∧ k_ ≠ gb178)) (by (with_reducible repeat (first | apply ra_ | apply rn_ | apply rd_)); exact rm_ HO_5.out (fun _ hk => ⟨⟨hk.1.2, hk.1.1⟩, hk.2⟩)) hg hat)
               have n1_ := M_ (blk_grown (g := gb176) (o := .cells #[.slice A0_0 l0_0.length c0_0, .int .i64 a0_1] 59 (0, 0)) (by (with_reducible repeat (first | refine kn_ ?_ _ | refine kd_ ?_ | refine ka_ ?_ _)); exact BK176.out) hg (Kd.R_ne HO181.out BK176.out (by decide)))
               have n2_ := M_ (blk_grown (g := gb178) (o := .cells #[.int .i64 ((rd_T92 l1 x12_1).f0), .int .i64 ((rd_T92 l1 x12_1).f1), .int .i64 ((rd_T92 l1 x12_1).f2)] 92 (0, 0)) (by (with_reducible repeat (first | refine kn_ ?_ _ | refine kd_ ?_ | refine ka_ ?_ _)); exact BK178.out) hg (Kd.R_away HO181.out (fun _ hk => hk.2)))
               have n3_ := M_ (Kd.R_after (ok := (fun k_ => some k_ ≠ (.slice Ao36 x5_1.length co36 : Value).ownBlock ∧ k_ ≠ gb178)) (by (with_reducible repeat (first | apply ra_ | apply rn_ | apply rd_)); exact rm_ HO187.out (fun _ hk => ⟨⟨hk.1.1.2, hk.1.2⟩, hk.2⟩)) hg hat)
               have n4_ := M_ (hb)
               have n5_ := M_ (ho)
               clear HO_5
               clear BK176
               clear BK178
               clear HO187
               clear HB
               clear HO181
               have HO_5 := n0_
               have BK176 := n1_
               have BK178 := n2_
               have HO187 := n3_
               have HB := n4_
               have HO184 := n5_
               clear n0_ n1_ n2_ n3_ n4_ n5_
               clear ho hb hg hat
               refine hK.out _ _ ⟨(blk_cell BK178.out 0).trans rfl, (blk_cell BK178.out 1).trans rfl, (blk_cell BK178.out 2).trans rfl⟩ (fun hHeld => ?_)
               clear hK K
               refine norm_ (a' := ?_) ?_ ?_
               rotate_left
               ·show Act.put _ (some 18) _ = _
                simp only [Act.put, la_, lb_, lc_, i64_w, i32_w]
                rfl
               exact norm_ (by simp only [putAll, Act.put, la_, lb_, lc_]) (hCont (v180, v183, v186) _ ⟨hHeld, (by (with_reducible repeat (first | apply ra_ | apply rn_ | apply rd_)); exact rm_ HO184.out (fun _ hk => ⟨hk.2.1, ⟨hk.1, hk.2.2⟩⟩)), (by (with_reducible repeat (first | apply ra_ | apply rn_ | apply rd_)); exact rm_ HO187.out (fun _ hk => ⟨hk.2, ⟨hk.1.1, hk.1.2⟩⟩)), (by (with_reducible repeat (first | apply ra_ | apply rn_ | apply rd_)); exact rm_ HO_5.out (fun _ hk => ⟨hk.2, ⟨hk.1.1, hk.1.2⟩⟩)), (by (with_reducible repeat (first | refine kn_ ?_ _ | refine kd_ ?_ | refine ka_ ?_ _)); exact BK176.out), (by (with_reducible repeat (first | refine kn_ ?_ _ | refine kd_ ?_ | refine ka_ ?_ _)); exact BK178.out), (by repeat (first | (with_reducible first | exact HB.out | apply ba_ | apply bn_ | apply b1_ | refine bs_ ?_ GE176.out | refine bs_ ?_ GE178.out) | exact HB.out))⟩)
             rintro ⟨v180, v183, v186⟩ w44 ⟨hS_, h0_, h1_, h2_, h3_, h4_, h5_⟩
             have n0_ : Aside0 (Kd.R k92 92 w44 w.heap.size (fun k_ => some k_ ≠ (v186 : Value).ownBlock ∧ some k_ ≠ (.slice Ao36 x5_1.length co36 : Value).ownBlock ∧ k_ ≠ gb178) v183 y182) := ⟨h0_⟩
             have n1_ : Aside0 (Kd.R k92 92 w44 w.heap.size (fun k_ => some k_ ≠ (v183 : Value).ownBlock ∧ some k_ ≠ (.slice Ao36 x5_1.length co36 : Value).ownBlock ∧ k_ ≠ gb178) v186 y185) := ⟨h1_⟩
             have n2_ : Aside0 (Kd.R k92 92 w44 w.heap.size (fun k_ => some k_ ≠ (v183 : Value).ownBlock ∧ some k_ ≠ (v186 : Value).ownBlock ∧ k_ ≠ gb178) (.slice Ao36 x5_1.length co36) x5_1) := ⟨h2_⟩
             have n3_ : Aside0 (w44.heap[gb176]? = some (.cells #[.slice A0_0 l0_0.length c0_0, .int .i64 a0_1] 59 (0, 0))) := ⟨h3_⟩
             have n4_ : Aside0 (w44.heap[gb178]? = some (.cells #[.int .i64 ((rd_T92 l1 x12_1).f0), .int .i64 ((rd_T92 l1 x12_1).f1), .int .i64 ((rd_T92 l1 x12_1).f2)] 92 (0, 0))) := ⟨h4_⟩
             have n5_ : Aside0 (Below w.heap.size w w44) := ⟨h5_⟩
             clear HO_5
             clear BK176
             clear BK178
             clear HB
             clear h0_ h1_ h2_ h3_ h4_ h5_
             have HO184 := n0_
             have HO187 := n1_
             have HO_5 := n2_
             have BK176 := n3_
             have BK178 := n4_
             have HB := n5_
             clear n0_ n1_ n2_ n3_ n4_ n5_
             have hHeld : w44.cell? ⟨gb178, 0, none⟩ = some (.int .i64 ((rd_T92 l1 x12_1).f0)) ∧ w44.cell? ⟨gb178, 1, none⟩ = some (.int .i64 ((rd_T92 l1 x12_1).f1)) ∧ w44.cell? ⟨gb178, 2, none⟩ = some (.int .i64 ((rd_T92 l1 x12_1).f2)) := hS_
             obtain ⟨Ao46, co46, eo46⟩ := Kd.R_slice HO187.out
             (first | subst eo46 | (injection eo46 with f1_ f2_ f3_; have f4_ := f1_.symm; have f5_ := f3_.symm; clear f1_ f2_ f3_; subst f4_; subst f5_))
             refine norm_ (a' := ?_) ?_ ?_
             rotate_left
             ·simp only [putAll, Act.put, la_, lb_, lc_]
              rfl
             refine one_ (i := 5) (N := some 21) #[true, true, true, true, true, true, false] rfl rfl (by kernel_rfl) (by decide) (fun K hK => ?_)
             refine Kd.R_append_rows_step k92 (w0 := w) w.heap.size (by rfl) (.tmp 18) (.tmp 20) 24 92 (.agg #[(.int .i64 0), (.int .i64 0), (.int .i64 0)]) 24 rfl Try.underlying24 info92 rfl (by decide) (by omega) v183 y182 y185 _ _ _ (fun k_ => some k_ ≠ (.slice Ao36 x5_1.length co36 : Value).ownBlock ∧ some k_ ≠ (.slice Ao46 y185.length co46 : Value).ownBlock ∧ k_ ≠ gb178) (fun _ => False) rfl rfl ?aO ?aR (fun _ _ h => h) (fun _ h => h.elim) ?aF ?aB ?aS ?aL ?_
             (case aR => repeat (first | exact (Kd.R_reads' HO187.out).2.2 | (with_reducible refine Kd.C_alloc ?_ _) | (with_reducible refine Kd.C_drewN ?_ _) | (with_reducible refine Kd.C_drew ?_)))
             (case aB => exact (by repeat (first | (with_reducible first | exact HB.out | apply ba_ | apply bn_ | apply b1_ | refine bs_ ?_ GE176.out | refine bs_ ?_ GE178.out) | exact HB.out)))
             (case aF => exact (fun k_ hk => ⟨Kd.fresh' (Kd.R_lt (by (with_reducible repeat (first | apply ra_ | apply rn_ | apply rd_)); exact HO_5.out)) k_ hk, Kd.fresh' (Kd.R_lt (by (with_reducible repeat (first | apply ra_ | apply rn_ | apply rd_)); exact HO187.out)) k_ hk, Kd.freshB (g := gb178) (o := .cells #[.int .i64 ((rd_T92 l1 x12_1).f0), .int .i64 ((rd_T92 l1 x12_1).f1), .int .i64 ((rd_T92 l1 x12_1).f2)] 92 (0, 0)) (by (with_reducible repeat (first | refine kn_ ?_ _ | refine kd_ ?_ | refine ka_ ?_ _)); exact BK178.out) k_ hk⟩))
             (case aO => exact (by (with_reducible repeat (first | apply ra_ | apply rn_ | apply rd_)); exact rm_ HO184.out (fun _ hk => ⟨hk.2.1, ⟨hk.1, hk.2.2⟩⟩)))
             (case aS => exact (below_size (by repeat (first | (with_reducible first | exact HB.out | apply ba_ | apply bn_ | apply b1_ | refine bs_ ?_ GE176.out | refine bs_ ?_ GE178.out) | exact HB.out))))
             (case aL => have := LMc8.out; omega)
             intro v189 w45 ho hb hg hat
             rw [← Ny188.out] at ho
             have n0_ := M_ (Kd.R_after (ok := (fun k_ => some k_ ≠ (.slice Ao46 y185.length co46 : Value).ownBlock ∧ k_ ≠ gb178)) (by (with_reducible repeat (first | apply ra_ | apply rn_ | apply rd_)); exact rm_ HO_5.out (fun _ hk => ⟨⟨hk.2.1, hk.2.2⟩, hk.1⟩)) hg hat)
             have n1_ := M_ (blk_grown (g := gb176) (o := .cells #[.slice A0_0 l0_0.length c0_0, .int .i64 a0_1] 59 (0, 0)) (by (with_reducible repeat (first | refine kn_ ?_ _ | refine kd_ ?_ | refine ka_ ?_ _)); exact BK176.out) hg (Kd.R_ne HO184.out BK176.out (by decide)))
             have n2_ := M_ (blk_grown (g := gb178) (o := .cells #[.int .i64 ((rd_T92 l1 x12_1).f0), .int .i64 ((rd_T92 l1 x12_1).f1), .int .i64 ((rd_T92 l1 x12_1).f2)] 92 (0, 0)) (by (with_reducible repeat (first | refine kn_ ?_ _ | refine kd_ ?_ | refine ka_ ?_ _)); exact BK178.out) hg (Kd.R_away HO184.out (fun _ hk => hk.2.2)))
             have n3_ := M_ (Kd.R_after (ok := (fun k_ => some k_ ≠ (.slice Ao36 x5_1.length co36 : Value).ownBlock ∧ k_ ≠ gb178)) (by (with_reducible repeat (first | apply ra_ | apply rn_ | apply rd_)); exact rm_ HO187.out (fun _ hk => ⟨⟨hk.2.1, hk.2.2⟩, hk.1⟩)) hg hat)
             have n4_ := M_ (hb)
             have n5_ := M_ (ho)
             clear HO_5
             clear BK176
             clear BK178
             clear HO187
             clear HB
             clear HO184
             have HO_5 := n0_
             have BK176 := n1_
             have BK178 := n2_
             have HO187 := n3_
             have HB := n4_
             have HO190 := n5_
             clear n0_ n1_ n2_ n3_ n4_ n5_
             clear ho hb hg hat
             refine hK.out _ _ ⟨(blk_cell BK178.out 0).trans rfl, (blk_cell BK178.out 1).trans rfl, (blk_cell BK178.out 2).trans rfl⟩ (fun hHeld => ?_)
             clear hK K
             refine norm_ (a' := ?_) ?_ ?_
             rotate_left
             ·show Act.put _ (some 21) _ = _
              simp only [Act.put, la_, lb_, lc_, i64_w, i32_w]
              rfl
             refine pure_ (i := 6) (N := some 8) (v := ?_) (a' := ?_) #[true, true, true, true, true, true, true] rfl rfl (by kernel_rfl) (fun _ _ _ h => h) (Or.inl ⟨by rfl, ?_⟩) ?_ ?_
             rotate_left
             ·intro w'
              go_simp
              with_reducible rfl
             rotate_left
             ·simp only [Act.put, la_, lb_, lc_, i64_w, i32_w]
              rfl
             refine done_ (by kernel_rfl) ?_
             obtain ⟨Ao47, co47, eo47⟩ := Kd.R_slice HO190.out
             subst eo47
             try go_wp2_with (first | ((with_reducible refine gate_callee (f := 140) rfl ?_); refine goesL_ (some 25) rfl rfl Try.func140 (by kernel_rfl) rfl #[.slice Ao47 y188.length co47, .int .i64 (x5_1.length : Int)] rfl (by (try simp only [List.map_toArray, List.map_cons, List.map_nil]); first | done | rfl | (simp only [List.length_drop, List.length_take]; rfl)) ?_; (with_reducible refine (spec_inLast.calls k1 _ _ y188 (x5_1.length : Int) t191 _ ?side1 ?side2 A9.out).mono ?_); (case side1 => repeat (first | exact (Kd.R_reads' HO190.out).2.2 | (with_reducible refine Kd.C_alloc ?_ _) | (with_reducible refine Kd.C_drewN ?_ _) | (with_reducible refine Kd.C_drew ?_))); (case side2 => exact (Kd.R_reads' HO190.out).2.1); rintro e w' ⟨rfl, ⟨nd, rfl⟩⟩; refine ⟨_, rfl, ?_⟩))
             (try (rw [drewN_self w45]; generalize hq_ : World.drewN w45 _ = w45; have n0_ : Aside0 (Kd.R k92 92 w45 w.heap.size (fun k_ => some k_ ≠ (.slice Ao47 y188.length co47 : Value).ownBlock ∧ some k_ ≠ (.slice Ao36 x5_1.length co36 : Value).ownBlock ∧ k_ ≠ gb178) (.slice Ao46 y185.length co46) y185) := ⟨by rw [← hq_]; exact (by (with_reducible repeat (first | apply ra_ | apply rn_ | apply rd_)); exact rm_ HO187.out (fun _ hk => ⟨hk.2, ⟨hk.1.1, hk.1.2⟩⟩))⟩; have n1_ : Aside0 (Kd.R k92 92 w45 w.heap.size (fun k_ => some k_ ≠ (.slice Ao46 y185.length co46 : Value).ownBlock ∧ some k_ ≠ (.slice Ao36 x5_1.length co36 : Value).ownBlock ∧ k_ ≠ gb178) (.slice Ao47 y188.length co47) y188) := ⟨by rw [← hq_]; exact (by (with_reducible repeat (first | apply ra_ | apply rn_ | apply rd_)); exact rm_ HO190.out (fun _ hk => ⟨hk.2.1, ⟨hk.1, hk.2.2⟩⟩))⟩; have n2_ : Aside0 (Kd.R k92 92 w45 w.heap.size (fun k_ => some k_ ≠ (.slice Ao46 y185.length co46 : Value).ownBlock ∧ some k_ ≠ (.slice Ao47 y188.length co47 : Value).ownBlock ∧ k_ ≠ gb178) (.slice Ao36 x5_1.length co36) x5_1) := ⟨by rw [← hq_]; exact (by (with_reducible repeat (first | apply ra_ | apply rn_ | apply rd_)); exact rm_ HO_5.out (fun _ hk => ⟨hk.1.1, ⟨hk.2, hk.1.2⟩⟩))⟩; have n3_ : Aside0 (w45.heap[gb176]? = some (.cells #[.slice A0_0 l0_0.length c0_0, .int .i64 a0_1] 59 (0, 0))) := ⟨by rw [← hq_]; exact (by (with_reducible repeat (first | refine kn_ ?_ _ | refine kd_ ?_ | refine ka_ ?_ _)); exact BK176.out)⟩; have n4_ : Aside0 (w45.heap[gb178]? = some (.cells #[.int .i64 ((rd_T92 l1 x12_1).f0), .int .i64 ((rd_T92 l1 x12_1).f1), .int .i64 ((rd_T92 l1 x12_1).f2)] 92 (0, 0))) := ⟨by rw [← hq_]; exact (by (with_reducible repeat (first | refine kn_ ?_ _ | refine kd_ ?_ | refine ka_ ?_ _)); exact BK178.out)⟩; have n5_ : Aside0 (Below w.heap.size w w45) := ⟨by rw [← hq_]; exact (by repeat (first | (with_reducible first | exact HB.out | apply ba_ | apply bn_ | apply b1_ | refine bs_ ?_ GE176.out | refine bs_ ?_ GE178.out) | exact HB.out))⟩; clear HO187 HO190 HO_5 BK176 BK178 HB hq_; have HO187 := n0_; have HO190 := n1_; have HO_5 := n2_; have BK176 := n3_; have BK178 := n4_; have HB := n5_; clear n0_ n1_ n2_ n3_ n4_ n5_))
             have n0_ := M_ (rd_ HO_5.out)
             have n1_ := M_ (rd_ HO187.out)
             have n2_ := M_ (rd_ HO190.out)
             have n3_ := M_ (kd_ BK176.out)
             have n4_ := M_ (kd_ BK178.out)
             have n5_ := M_ (b1_ HB.out)
             clear HO_5
             clear HO187
             clear HO190
             clear BK176
             clear BK178
             clear HB
             have HO_5 := n0_
             have HO187 := n1_
             have HO190 := n2_
             have BK176 := n3_
             have BK178 := n4_
             have HB := n5_
             clear n0_ n1_ n2_ n3_ n4_ n5_
             have p193 : 0 ≤ (t191 : Int) := of_decide_eq_true (by first | (with_reducible assumption) | assumption)
             have q193 : t191 < (y188.length : Int) := of_decide_eq_true (by first | (with_reducible assumption) | assumption)
             obtain ⟨ad193, e193, hx193_0, hx193_1, hx193_2⟩ := at_T92 (Kd.R_reads' HO190.out).2.2 t191 p193 q193
             cases e193
             replace p193 := eq_true p193
             replace q193 := eq_true q193
             refine start_ (n := 22) (S := fun w' => w'.cell? ⟨gb176, 0, none⟩ = some (.slice A0_0 l0_0.length c0_0) ∧ w'.cell? ⟨gb176, 1, none⟩ = some (.int .i64 a0_1) ∧ w'.cell? ⟨gb178, 0, none⟩ = some (.int .i64 ((rd_T92 l1 x12_1).f0)) ∧ w'.cell? ⟨gb178, 1, none⟩ = some (.int .i64 ((rd_T92 l1 x12_1).f1)) ∧ w'.cell? ⟨gb178, 2, none⟩ = some (.int .i64 ((rd_T92 l1 x12_1).f2)) ∧ w'.cell? (ad193.add ((t191).toNat * 3)) = some (.int .i64 ((rd_T92 y188 t191).f0)) ∧ w'.cell? ⟨(ad193.add ((t191).toNat * 3)).block, (ad193.add ((t191).toNat * 3)).off + 1, none⟩ = some (.int .i64 ((rd_T92 y188 t191).f1)) ∧ w'.cell? ⟨(ad193.add ((t191).toNat * 3)).block, (ad193.add ((t191).toNat * 3)).off + 2, none⟩ = some (.int .i64 ((rd_T92 y188 t191).f2))) (ds := []) #[false, false, false, false, false, false, false, false, false, false, false, false, false, false, false, false, false, false, false, false, false, false] (by kernel_rfl) rfl rfl ⟨(blk_cell BK176.out 0).trans rfl, (blk_cell BK176.out 1).trans rfl, (blk_cell BK178.out 0).trans rfl, (blk_cell BK178.out 1).trans rfl, (blk_cell BK178.out 2).trans rfl, hx193_0, hx193_1, hx193_2⟩ (fun hHeld => ?_); refine with_tabW spec_inPart.tab7 spec_inPart.bits7 (fun HT_ HW_ => ?_)
             generalize w45.drew = w48 at HO_5 HO187 HO190 BK176 BK178 HB hx193_0 hx193_1 hx193_2 hHeld ⊢
             refine pure_ (i := 1) (N := some 27) (v := ?_) (a' := ?_) #[false, true, false, false, false, false, false, false, false, false, false, false, false, false, false, false, false, false, false, false, false, false] rfl rfl (any_of HT_.out (by kernel_rfl)) (fun _ _ _ h => h) (Or.inl ⟨by rfl, ?_⟩) ?_ ?_
             rotate_left
             ·intro w'
              go_simp
              with_reducible rfl
             rotate_left
             ·simp only [Act.put, la_, lb_, lc_, i64_w, i32_w]
              rfl
             refine take_ (i := 0) (N := some 26) (v := ?_) (a' := ?_) #[true, true, false, false, false, false, false, false, false, false, false, false, false, false, false, false, false, false, false, false, false, false] rfl rfl (take_ofW HT_.out HW_.out (by kernel_rfl)) (fun _ _ _ h => h) (Or.inl ⟨by rfl, ?_⟩) hHeld ?_ ?_
             rotate_left
             ·rintro w' ⟨s0, s1, s2, s3, s4, s5, s6, s7⟩
              go_simp
              with_reducible rfl
             rotate_left
             ·simp only [Act.put, la_, lb_, lc_, i64_w, i32_w]
              rfl
             refine take_ (i := 2) (N := some 28) (v := ?_) (a' := ?_) #[true, true, true, false, false, false, false, false, false, false, false, false, false, false, false, false, false, false, false, false, false, false] rfl rfl (take_ofW HT_.out HW_.out (by kernel_rfl)) (fun _ _ _ h => h) (Or.inl ⟨by rfl, ?_⟩) hHeld ?_ ?_
             rotate_left
             ·rintro w' ⟨s0, s1, s2, s3, s4, s5, s6, s7⟩
              go_simp
              with_reducible rfl
             rotate_left
             ·simp only [Act.put, la_, lb_, lc_, i64_w, i32_w]
              rfl
             refine one_ (i := 3) (N := some 29) #[true, true, true, true, false, false, false, false, false, false, false, false, false, false, false, false, false, false, false, false, false, false] rfl rfl (one_of HT_.out (by kernel_rfl)) (by decide) (fun K hK => ?_)
             refine goes_ Try.func141 (by kernel_rfl) rfl #[.agg #[.slice A0_0 l0_0.length c0_0, .int .i64 a0_1], .int .i64 ((rd_T92 l1 x12_1).f0)] (by rfl) rfl rfl (by (try simp only [List.map_toArray, List.map_cons, List.map_nil]); first | done | rfl | (simp only [List.length_drop, List.length_take]; rfl)) ?_
             with_reducible refine (spec_inTrack.calls k1 _ _ l0_0 a0_1 ((rd_T92 l1 x12_1).f0) t192 _ ?side1 ?side2 A10.out).mono ?_
             (case side1 => repeat (first | exact (Kd.C_below HR0_0.out HB.out) | (with_reducible refine Kd.C_alloc ?_ _) | (with_reducible refine Kd.C_drewN ?_ _) | (with_reducible refine Kd.C_drew ?_)))
             (case side2 => exact HC0_0.out)
             rintro e w49 ⟨rfl, hb⟩
             have HS5_ := (hb.cell (World.block_lt_of_cell? _ _ (hHeld.2.2.2.2.2.1))).trans (hHeld.2.2.2.2.2.1)
             have HS6_ := (hb.cell (World.block_lt_of_cell? _ _ (hHeld.2.2.2.2.2.2.1))).trans (hHeld.2.2.2.2.2.2.1)
             have HS7_ := (hb.cell (World.block_lt_of_cell? _ _ (hHeld.2.2.2.2.2.2.2))).trans (hHeld.2.2.2.2.2.2.2)
             refine ⟨_, rfl, ?_⟩
             have n0_ := M_ (rb_ (by (with_reducible repeat (first | apply ra_ | apply rn_ | apply rd_)); exact HO_5.out) hb)
             have n1_ := M_ (rb_ (by (with_reducible repeat (first | apply ra_ | apply rn_ | apply rd_)); exact HO187.out) hb)
             have n2_ := M_ (rb_ (by (with_reducible repeat (first | apply ra_ | apply rn_ | apply rd_)); exact HO190.out) hb)
             have n3_ := M_ (blk_below (g := gb176) (o := .cells #[.slice A0_0 l0_0.length c0_0, .int .i64 a0_1] 59 (0, 0)) (by (with_reducible repeat (first | refine kn_ ?_ _ | refine kd_ ?_ | refine ka_ ?_ _)); exact BK176.out) hb)
             have n4_ := M_ (blk_below (g := gb178) (o := .cells #[.int .i64 ((rd_T92 l1 x12_1).f0), .int .i64 ((rd_T92 l1 x12_1).f1), .int .i64 ((rd_T92 l1 x12_1).f2)] 92 (0, 0)) (by (with_reducible repeat (first | refine kn_ ?_ _ | refine kd_ ?_ | refine ka_ ?_ _)); exact BK178.out) hb)
             have n5_ := M_ (below_step (by repeat (first | (with_reducible first | exact HB.out | apply ba_ | apply bn_ | apply b1_ | refine bs_ ?_ GE176.out | refine bs_ ?_ GE178.out) | exact HB.out)) hb)
             clear HO_5
             clear HO187
             clear HO190
             clear BK176
             clear BK178
             clear HB
             have HO_5 := n0_
             have HO187 := n1_
             have HO190 := n2_
             have BK176 := n3_
             have BK178 := n4_
             have HB := n5_
             clear n0_ n1_ n2_ n3_ n4_ n5_
             (try clear hb)
             (try clear hb2)
             (try clear hk)
             (try clear hi)
             refine hK.out _ _ ⟨(blk_cell BK176.out 0).trans rfl, (blk_cell BK176.out 1).trans rfl, (blk_cell BK178.out 0).trans rfl, (blk_cell BK178.out 1).trans rfl, (blk_cell BK178.out 2).trans rfl, HS5_, HS6_, HS7_⟩ (fun hHeld => ?_)
             clear hK K
             refine norm_ (a' := ?_) ?_ ?_
             rotate_left
             ·show Act.put _ (some 29) _ = _
              simp only [Act.put, la_, lb_, lc_, i64_w, i32_w]
              rfl
             refine pure_ (i := 4) (N := some 30) (v := ?_) (a' := ?_) #[true, true, true, true, true, false, false, false, false, false, false, false, false, false, false, false, false, false, false, false, false, false] rfl rfl (any_of HT_.out (by kernel_rfl)) (fun _ _ _ h => h) (Or.inl ⟨by rfl, ?_⟩) ?_ ?_
             rotate_left
             ·intro w'
              go_simp
              with_reducible rfl
             rotate_left
             ·simp only [Act.put, la_, lb_, lc_, i64_w, i32_w]
              rfl
             refine pure_ (i := 5) (N := some 31) (v := ?_) (a' := ?_) #[true, true, true, true, true, true, false, false, false, false, false, false, false, false, false, false, false, false, false, false, false, false] rfl rfl (any_of HT_.out (by kernel_rfl)) (fun _ _ _ h => h) (Or.inl ⟨by rfl, ?_⟩) ?_ ?_
             rotate_left
             ·intro w'
              go_simp
              with_reducible rfl
             rotate_left
             ·simp only [Act.put, la_, lb_, lc_, i64_w, i32_w]
              rfl
             refine pure_ (i := 6) (N := some 32) (v := ?_) (a' := ?_) #[true, true, true, true, true, true, true, false, false, false, false, false, false, false, false, false, false, false, false, false, false, false] rfl rfl (any_of HT_.out (by kernel_rfl)) (fun _ _ _ h => h) (Or.inl ⟨by rfl, ?_⟩) ?_ ?_
             rotate_left
             ·intro w'
              go_simp
              with_reducible rfl
             rotate_left
             ·simp only [Act.put, la_, lb_, lc_, i64_w, i32_w]
              rfl
             refine pure_ (i := 7) (N := some 33) (v := ?_) (a' := ?_) #[true, true, true, true, true, true, true, true, false, false, false, false, false, false, false, false, false, false, false, false, false, false] rfl rfl (any_of HT_.out (by kernel_rfl)) (fun _ _ _ h => h) (Or.inl ⟨by rfl, ?_⟩) ?_ ?_
             rotate_left
             ·intro w'
              go_simp
              with_reducible rfl
             rotate_left
             ·simp only [Act.put, la_, lb_, lc_, i64_w, i32_w]
              rfl
             refine pure_ (i := 8) (N := some 34) (v := ?_) (a' := ?_) #[true, true, true, true, true, true, true, true, true, false, false, false, false, false, false, false, false, false, false, false, false, false] rfl rfl (any_of HT_.out (by kernel_rfl)) (fun _ _ _ h => h) (Or.inl ⟨by rfl, ?_⟩) ?_ ?_
             rotate_left
             ·intro w'
              go_simp
              with_reducible rfl
             rotate_left
             ·simp only [Act.put, la_, lb_, lc_, i64_w, i32_w]
              rfl
             refine pure_ (i := 9) (N := some 35) (v := ?_) (a' := ?_) #[true, true, true, true, true, true, true, true, true, true, false, false, false, false, false, false, false, false, false, false, false, false] rfl rfl (any_of HT_.out (by kernel_rfl)) (fun _ _ _ h => h) (Or.inl ⟨by rfl, ?_⟩) ?_ ?_
             rotate_left
             ·intro w'
              go_simp
              with_reducible rfl
             rotate_left
             ·simp only [Act.put, la_, lb_, lc_, i64_w, i32_w]
              rfl
             refine pure_ (i := 11) (N := some 37) (v := ?_) (a' := ?_) #[true, true, true, true, true, true, true, true, true, true, false, true, false, false, false, false, false, false, false, false, false, false] rfl rfl (any_of HT_.out (by kernel_rfl)) (fun _ _ _ h => h) (Or.inl ⟨by rfl, ?_⟩) ?_ ?_
             rotate_left
             ·intro w'
              go_simp
              with_reducible rfl
             rotate_left
             ·simp only [Act.put, la_, lb_, lc_, i64_w, i32_w]
              rfl
             refine pure_ (i := 12) (N := some 38) (v := ?_) (a' := ?_) #[true, true, true, true, true, true, true, true, true, true, false, true, true, false, false, false, false, false, false, false, false, false] rfl rfl (any_of HT_.out (by kernel_rfl)) (fun _ _ _ h => h) (Or.inl ⟨by rfl, ?_⟩) ?_ ?_
             rotate_left
             ·intro w'
              go_simp
              with_reducible rfl
             rotate_left
             ·simp only [Act.put, la_, lb_, lc_, i64_w, i32_w]
              rfl
             refine pure_ (i := 13) (N := some 39) (v := ?_) (a' := ?_) #[true, true, true, true, true, true, true, true, true, true, false, true, true, true, false, false, false, false, false, false, false, false] rfl rfl (any_of HT_.out (by kernel_rfl)) (fun _ _ _ h => h) (Or.inl ⟨by rfl, ?_⟩) ?_ ?_
             rotate_left
             ·intro w'
              go_simp
              with_reducible rfl
             rotate_left
             ·simp only [Act.put, la_, lb_, lc_, i64_w, i32_w]
              rfl
             refine pure_ (i := 14) (N := some 40) (v := ?_) (a' := ?_) #[true, true, true, true, true, true, true, true, true, true, false, true, true, true, true, false, false, false, false, false, false, false] rfl rfl (any_of HT_.out (by kernel_rfl)) (fun _ _ _ h => h) (Or.inl ⟨by rfl, ?_⟩) ?_ ?_
             rotate_left
             ·intro w'
              go_simp
              with_reducible rfl
             rotate_left
             ·simp only [Act.put, la_, lb_, lc_, i64_w, i32_w]
              rfl
             refine pure_ (i := 17) (N := some 43) (v := ?_) (a' := ?_) #[true, true, true, true, true, true, true, true, true, true, false, true, true, true, true, false, false, true, false, false, false, false] rfl rfl (any_of HT_.out (by kernel_rfl)) (fun _ _ _ h => h) (Or.inl ⟨by rfl, ?_⟩) ?_ ?_
             rotate_left
             ·intro w'
              go_simp
              with_reducible rfl
             rotate_left
             ·simp only [Act.put, la_, lb_, lc_, i64_w, i32_w]
              rfl
             refine take_ (i := 10) (N := some 36) (v := ?_) (a' := ?_) #[true, true, true, true, true, true, true, true, true, true, true, true, true, true, true, false, false, true, false, false, false, false] rfl rfl (take_ofW HT_.out HW_.out (by kernel_rfl)) (fun _ _ _ h => h) (Or.inl ⟨by rfl, ?_⟩) hHeld ?_ ?_
             rotate_left
             ·rintro w' ⟨s0, s1, s2, s3, s4, s5, s6, s7⟩
              go_simp
              with_reducible rfl
             rotate_left
             ·simp only [Act.put, la_, lb_, lc_, i64_w, i32_w]
              rfl
             refine take_ (i := 15) (N := some 41) (v := ?_) (a' := ?_) #[true, true, true, true, true, true, true, true, true, true, true, true, true, true, true, true, false, true, false, false, false, false] rfl rfl (take_ofW HT_.out HW_.out (by kernel_rfl)) (fun _ _ _ h => h) (Or.inl ⟨by rfl, ?_⟩) hHeld ?_ ?_
             rotate_left
             ·rintro w' ⟨s0, s1, s2, s3, s4, s5, s6, s7⟩
              go_simp
              with_reducible rfl
             rotate_left
             ·simp only [Act.put, la_, lb_, lc_, i64_w, i32_w]
              rfl
             refine pure_ (i := 16) (N := some 42) (v := ?_) (a' := ?_) #[true, true, true, true, true, true, true, true, true, true, true, true, true, true, true, true, true, true, false, false, false, false] rfl rfl (any_of HT_.out (by kernel_rfl)) (fun _ _ _ h => h) (Or.inl ⟨by rfl, ?_⟩) ?_ ?_
             rotate_left
             ·intro w'
              go_simp
              with_reducible rfl
             rotate_left
             ·simp only [Act.put, la_, lb_, lc_, i64_w, i32_w]
              rfl
             refine take_ (i := 18) (N := some 44) (v := ?_) (a' := ?_) #[true, true, true, true, true, true, true, true, true, true, true, true, true, true, true, true, true, true, true, false, false, false] rfl rfl (take_ofW HT_.out HW_.out (by kernel_rfl)) (fun _ _ _ h => h) (Or.inl ⟨by rfl, ?_⟩) hHeld ?_ ?_
             rotate_left
             ·rintro w' ⟨s0, s1, s2, s3, s4, s5, s6, s7⟩
              go_simp
              with_reducible rfl
             rotate_left
             ·simp only [Act.put, la_, lb_, lc_, i64_w, i32_w]
              rfl
             refine pure_ (i := 19) (N := some 45) (v := ?_) (a' := ?_) #[true, true, true, true, true, true, true, true, true, true, true, true, true, true, true, true, true, true, true, true, false, false] rfl rfl (any_of HT_.out (by kernel_rfl)) (fun _ _ _ h => h) (Or.inl ⟨by rfl, ?_⟩) ?_ ?_
             rotate_left
             ·intro w'
              go_simp
              with_reducible rfl
             rotate_left
             ·simp only [Act.put, la_, lb_, lc_, i64_w, i32_w]
              rfl
             refine pure_ (i := 20) (N := some 46) (v := ?_) (a' := ?_) #[true, true, true, true, true, true, true, true, true, true, true, true, true, true, true, true, true, true, true, true, true, false] rfl rfl (any_of HT_.out (by kernel_rfl)) (fun _ _ _ h => h) (Or.inl ⟨by rfl, ?_⟩) ?_ ?_
             rotate_left
             ·intro w'
              go_simp
              with_reducible rfl
             rotate_left
             ·simp only [Act.put, la_, lb_, lc_, i64_w, i32_w]
              rfl
             refine pure_ (i := 21) (N := some 47) (v := ?_) (a' := ?_) #[true, true, true, true, true, true, true, true, true, true, true, true, true, true, true, true, true, true, true, true, true, true] rfl rfl (any_of HT_.out (by kernel_rfl)) (fun _ _ _ h => h) (Or.inl ⟨by rfl, ?_⟩) ?_ ?_
             rotate_left
             ·intro w'
              go_simp
              with_reducible rfl
             rotate_left
             ·simp only [Act.put, la_, lb_, lc_, i64_w, i32_w]
              rfl
             refine done_ (done_of HT_.out (by kernel_rfl)) ?_
             try go_wp2
             go_roundg k1
             case measure => have := HK1.out; omega
             case rel => exact ⟨(y188), (wrap64 (x12_1 + 1)), (by first | rfl | (simp; done) | (simp [*]; done)), H', ⟨by have := HK1.out; omega⟩, ⟨by (with_reducible repeat (first | apply ra_ | apply rn_ | apply rd_)); exact rm_ HO190.out (fun _ hk => trivial)⟩, ⟨by (with_reducible repeat (first | refine kn_ ?_ _ | refine kd_ ?_ | refine ka_ ?_ _)); exact BK176.out⟩, ⟨by repeat (first | (with_reducible first | exact HB.out | apply ba_ | apply bn_ | apply b1_ | refine bs_ ?_ GE176.out | refine bs_ ?_ GE178.out) | exact HB.out)⟩⟩
            ·rw [if_neg c32] at H
             have c32b0 : decide (a0_1 ≤ (wrap64 (((rd_T92 l1 x12_1).f1) - ((rd_T92 y188 t191).f1)))) = false := decide_eq_false c32
             clear c32
             have H' := M_ H
             clear H
             have p177 : 0 ≤ (x12_1 : Int) := of_decide_eq_true (by first | (with_reducible assumption) | assumption)
             have q177 : x12_1 < (l1.length : Int) := of_decide_eq_true (by first | (with_reducible assumption) | assumption)
             obtain ⟨ad177, e177, hx177_0, hx177_1, hx177_2⟩ := at_T92 HR1.out x12_1 p177 q177
             cases e177
             replace hx177_0 := (HB.out.cell (World.block_lt_of_cell? w _ hx177_0)).trans hx177_0
             replace hx177_1 := (HB.out.cell (World.block_lt_of_cell? w _ hx177_1)).trans hx177_1
             replace hx177_2 := (HB.out.cell (World.block_lt_of_cell? w _ hx177_2)).trans hx177_2
             replace p177 := eq_true p177
             replace q177 := eq_true q177
             try go_wp2_with (first | ((with_reducible refine gate_dst (N := 7) rfl ?_); refine box_event ?hg (N := 7) ?hd (cs := #[.int .i64 0, .int .i64 0, .int .i64 0]) (t := 92) ?hr ?_; (case hd => rfl); (case hg => rfl); (case hr => first | (go_simp; done) | (go_simp; rfl)); intro gb178 hg w50 hbox hb; have n0_ := M_ (rb_ (Kd.R_elderB (by (with_reducible repeat (first | apply ra_ | apply rn_ | apply rd_)); exact HO_5.out) gb178 (Nat.le_of_eq hg.symm)) hb); have n1_ := M_ (blk_below (g := gb176) (o := .cells #[.slice A0_0 l0_0.length c0_0, .int .i64 a0_1] 59 (0, 0)) (by (with_reducible repeat (first | refine kn_ ?_ _ | refine kd_ ?_ | refine ka_ ?_ _)); exact BK176.out) hb); have n2_ := M_ (below_step (by repeat (first | (with_reducible first | exact HB.out | apply ba_ | apply bn_ | apply b1_ | refine bs_ ?_ GE176.out) | exact HB.out)) hb); have n3_ := M_ (hbox); have n4_ := M_ ((by rw [hg]; exact (below_size (by repeat (first | (with_reducible first | exact HB.out | apply ba_ | apply bn_ | apply b1_ | refine bs_ ?_ GE176.out) | exact HB.out))) : w.heap.size ≤ gb178)); have n5_ := M_ ((by rw [hg]; exact (below_size (by repeat (first | (with_reducible first | exact HB.out | apply ba_ | apply bn_ | apply b1_ | refine bs_ ?_ GE176.out) | exact HB.out))) : w.heap.size ≤ gb178)); have n6_ := M_ ((by rw [hg]; exact Nat.ne_of_lt (blk_lt (g := gb176) (o := .cells #[.slice A0_0 l0_0.length c0_0, .int .i64 a0_1] 59 (0, 0)) (by (with_reducible repeat (first | refine kn_ ?_ _ | refine kd_ ?_ | refine ka_ ?_ _)); exact BK176.out)) : gb176 ≠ gb178)); have n7_ := M_ ((by rw [hg]; exact Nat.ne_of_gt (blk_lt (g := gb176) (o := .cells #[.slice A0_0 l0_0.length c0_0, .int .i64 a0_1] 59 (0, 0)) (by (with_reducible repeat (first | refine kn_ ?_ _ | refine kd_ ?_ | refine ka_ ?_ _)); exact BK176.out)) : gb178 ≠ gb176)); clear HO_5; clear BK176; clear HB; have HO_5 := n0_; have BK176 := n1_; have HB := n2_; have BK178 := n3_; have GW178 := n4_; have GE178 := n5_; have NB176_178 := n6_; have NB178_176 := n7_; clear n0_ n1_ n2_ n3_ n4_ n5_ n6_ n7_; clear hb hbox hg; have hnb51 := NB178_176.out; have hnc51 := NB176_178.out; have hcz52_0 : w50.cell? ⟨gb178, 0, none⟩ = some (.int .i64 0) := (blk_cell BK178.out 0).trans rfl; have hcz52_1 : w50.cell? ⟨gb178, 1, none⟩ = some (.int .i64 0) := (blk_cell BK178.out 1).trans rfl; have hcz52_2 : w50.cell? ⟨gb178, 2, none⟩ = some (.int .i64 0) := (blk_cell BK178.out 2).trans rfl; have hfz52_0 := blk_frozen BK178.out 0; have hfz52_1 := blk_frozen BK178.out 1; have hfz52_2 := blk_frozen BK178.out 2; obtain ⟨Ao53, co53, eo53⟩ := Kd.R_slice HO_5.out; subst eo53))
             have n0_ : Aside0 (Kd.R k92 92 (((w50.setCell ⟨gb178, 0, none⟩ (.int .i64 ((rd_T92 l1 x12_1).f0))).setCell ⟨gb178, 1, none⟩ (.int .i64 ((rd_T92 l1 x12_1).f1))).setCell ⟨gb178, 2, none⟩ (.int .i64 ((rd_T92 l1 x12_1).f2))) w.heap.size (fun k_ => k_ ≠ gb178) (.slice Ao53 x5_1.length co53) x5_1) := ⟨by (with_reducible repeat (first | apply ra_ | apply rn_ | apply rd_)); exact rm_ (Kd.R_far (p := ⟨gb178, 2, none⟩) (Kd.R_far (p := ⟨gb178, 1, none⟩) (Kd.R_far (p := ⟨gb178, 0, none⟩) (rm_ HO_5.out (fun k_ hk => (⟨hk, hk.2⟩ : _ ∧ k_ ≠ gb178))) (fun _ hk => hk.2) (.int .i64 ((rd_T92 l1 x12_1).f0))) (fun _ hk => hk.2) (.int .i64 ((rd_T92 l1 x12_1).f1))) (fun _ hk => hk.2) (.int .i64 ((rd_T92 l1 x12_1).f2))) (fun _ hk => hk.1.2)⟩
             have n1_ : Aside0 ((((w50.setCell ⟨gb178, 0, none⟩ (.int .i64 ((rd_T92 l1 x12_1).f0))).setCell ⟨gb178, 1, none⟩ (.int .i64 ((rd_T92 l1 x12_1).f1))).setCell ⟨gb178, 2, none⟩ (.int .i64 ((rd_T92 l1 x12_1).f2))).heap[gb176]? = some (.cells #[.slice A0_0 l0_0.length c0_0, .int .i64 a0_1] 59 (0, 0))) := ⟨by (with_reducible repeat (first | refine kn_ ?_ _ | refine kd_ ?_ | refine ka_ ?_ _)); refine blk_far ?_ NB176_178.out _; (with_reducible repeat (first | refine kn_ ?_ _ | refine kd_ ?_ | refine ka_ ?_ _)); refine blk_far ?_ NB176_178.out _; (with_reducible repeat (first | refine kn_ ?_ _ | refine kd_ ?_ | refine ka_ ?_ _)); refine blk_far ?_ NB176_178.out _; (with_reducible repeat (first | refine kn_ ?_ _ | refine kd_ ?_ | refine ka_ ?_ _)); exact BK176.out⟩
             have n2_ : Aside0 ((((w50.setCell ⟨gb178, 0, none⟩ (.int .i64 ((rd_T92 l1 x12_1).f0))).setCell ⟨gb178, 1, none⟩ (.int .i64 ((rd_T92 l1 x12_1).f1))).setCell ⟨gb178, 2, none⟩ (.int .i64 ((rd_T92 l1 x12_1).f2))).heap[gb178]? = some (.cells #[.int .i64 ((rd_T92 l1 x12_1).f0), .int .i64 ((rd_T92 l1 x12_1).f1), .int .i64 ((rd_T92 l1 x12_1).f2)] 92 (0, 0))) := ⟨by (with_reducible repeat (first | refine kn_ ?_ _ | refine kd_ ?_ | refine ka_ ?_ _)); refine blk_put (cs := #[.int .i64 ((rd_T92 l1 x12_1).f0), .int .i64 ((rd_T92 l1 x12_1).f1), .int .i64 0]) ?_ 2 _ rfl; (with_reducible repeat (first | refine kn_ ?_ _ | refine kd_ ?_ | refine ka_ ?_ _)); refine blk_put (cs := #[.int .i64 ((rd_T92 l1 x12_1).f0), .int .i64 0, .int .i64 0]) ?_ 1 _ rfl; (with_reducible repeat (first | refine kn_ ?_ _ | refine kd_ ?_ | refine ka_ ?_ _)); refine blk_put (cs := #[.int .i64 0, .int .i64 0, .int .i64 0]) ?_ 0 _ rfl; (with_reducible repeat (first | refine kn_ ?_ _ | refine kd_ ?_ | refine ka_ ?_ _)); exact BK178.out⟩
             have n3_ : Aside0 (Below w.heap.size w (((w50.setCell ⟨gb178, 0, none⟩ (.int .i64 ((rd_T92 l1 x12_1).f0))).setCell ⟨gb178, 1, none⟩ (.int .i64 ((rd_T92 l1 x12_1).f1))).setCell ⟨gb178, 2, none⟩ (.int .i64 ((rd_T92 l1 x12_1).f2)))) := ⟨by repeat (first | (with_reducible first | exact HB.out | apply ba_ | apply bn_ | apply b1_ | refine bs_ ?_ GE176.out | refine bs_ ?_ GE178.out) | exact HB.out)⟩
             (try clear HO_5)
             (try clear BK176)
             (try clear BK178)
             (try clear HB)
             generalize (((w50.setCell ⟨gb178, 0, none⟩ (.int .i64 ((rd_T92 l1 x12_1).f0))).setCell ⟨gb178, 1, none⟩ (.int .i64 ((rd_T92 l1 x12_1).f1))).setCell ⟨gb178, 2, none⟩ (.int .i64 ((rd_T92 l1 x12_1).f2))) = w54 at n0_ n1_ n2_ n3_ ⊢
             have HO_5 := n0_
             have BK176 := n1_
             have BK178 := n2_
             have HB := n3_
             clear n0_ n1_ n2_ n3_
             have n0_ := M_ (rd_ HO_5.out)
             have n1_ := M_ (kd_ BK176.out)
             have n2_ := M_ (kd_ BK178.out)
             have n3_ := M_ (b1_ HB.out)
             clear HO_5
             clear BK176
             clear BK178
             clear HB
             have HO_5 := n0_
             have BK176 := n1_
             have BK178 := n2_
             have HB := n3_
             clear n0_ n1_ n2_ n3_
             refine start_ (n := 7) (S := fun w' => w'.cell? ⟨gb178, 0, none⟩ = some (.int .i64 ((rd_T92 l1 x12_1).f0)) ∧ w'.cell? ⟨gb178, 1, none⟩ = some (.int .i64 ((rd_T92 l1 x12_1).f1)) ∧ w'.cell? ⟨gb178, 2, none⟩ = some (.int .i64 ((rd_T92 l1 x12_1).f2))) (ds := []) #[false, false, false, false, false, false, false] (by kernel_rfl) rfl rfl ⟨(blk_cell BK178.out 0).trans rfl, (blk_cell BK178.out 1).trans rfl, (blk_cell BK178.out 2).trans rfl⟩ (fun hHeld => ?_)
             generalize w54.drew = w55 at HO_5 BK176 BK178 HB hHeld ⊢
             refine pure_ (i := 1) (N := some 17) (v := ?_) (a' := ?_) #[false, true, false, false, false, false, false] rfl rfl (by kernel_rfl) (fun _ _ _ h => h) (Or.inl ⟨by rfl, ?_⟩) ?_ ?_
             rotate_left
             ·intro w'
              go_simp
              with_reducible rfl
             rotate_left
             ·simp only [Act.put, la_, lb_, lc_, i64_w, i32_w]
              rfl
             refine take_ (i := 3) (N := some 19) (v := ?_) (a' := ?_) #[false, true, false, true, false, false, false] rfl rfl (by kernel_rfl) (fun _ _ _ h => h) (Or.inl ⟨by rfl, ?_⟩) hHeld ?_ ?_
             rotate_left
             ·rintro w' ⟨s0, s1, s2⟩
              go_simp
              with_reducible rfl
             rotate_left
             ·simp only [Act.put, la_, lb_, lc_, i64_w, i32_w]
              rfl
             refine join_ (σ := Value × Value × Value) 2 #[true, true, true, true, true, false, false] (fun s_ => [(16, s_.1), (18, s_.2.1), (20, s_.2.2)]) (fun s_ w' => (w'.cell? ⟨gb178, 0, none⟩ = some (.int .i64 ((rd_T92 l1 x12_1).f0)) ∧ w'.cell? ⟨gb178, 1, none⟩ = some (.int .i64 ((rd_T92 l1 x12_1).f1)) ∧ w'.cell? ⟨gb178, 2, none⟩ = some (.int .i64 ((rd_T92 l1 x12_1).f2))) ∧ (Kd.R k92 92 w' w.heap.size (fun k_ => some k_ ≠ (s_.2.2 : Value).ownBlock ∧ some k_ ≠ (.slice Ao53 x5_1.length co53 : Value).ownBlock ∧ k_ ≠ gb178) s_.2.1 y182) ∧ (Kd.R k92 92 w' w.heap.size (fun k_ => some k_ ≠ (s_.2.1 : Value).ownBlock ∧ some k_ ≠ (.slice Ao53 x5_1.length co53 : Value).ownBlock ∧ k_ ≠ gb178) s_.2.2 y185) ∧ (Kd.R k92 92 w' w.heap.size (fun k_ => some k_ ≠ (s_.2.1 : Value).ownBlock ∧ some k_ ≠ (s_.2.2 : Value).ownBlock ∧ k_ ≠ gb178) (.slice Ao53 x5_1.length co53) x5_1) ∧ (w'.heap[gb176]? = some (.cells #[.slice A0_0 l0_0.length c0_0, .int .i64 a0_1] 59 (0, 0))) ∧ (w'.heap[gb178]? = some (.cells #[.int .i64 ((rd_T92 l1 x12_1).f0), .int .i64 ((rd_T92 l1 x12_1).f1), .int .i64 ((rd_T92 l1 x12_1).f2)] 92 (0, 0))) ∧ (Below w.heap.size w w')) ?_ ?_
             rotate_left
             ·intro hCont
              refine two_ (i := 0) (j := 4) (Ni := some 16) (Nj := some 20) #[true, true, false, true, false, false, false] #[false, true, false, true, true, false, false] rfl rfl rfl rfl (by kernel_rfl) (by decide) (by decide) (fun K hK => ?_) (fun K hK => ?_)
              ·skip
               refine Kd.R_lit_step k92 _ 92 ?hg (N := 16) ?hd (xs := ([] : List (S92))) (inner := []) (ok := fun _ => True) (okp := fun _ => True) ?hr ?hp (fun _ hk => hk) trivial (Below.refl _ _) (Nat.le_refl _) (by simp) ?_; (case hd => rfl); (case hg => rfl); (case hr => first | (go_simp; done) | (go_simp; rfl)); (case hp => exact (Reps.none _ _))
               intro v180 w56 ho57 hb hg_ hnew_
               clear hg_ hnew_
               (first | rw [← Ny179.out] at ho57 | (simp only [Int.reduceToNat] at ho57; rw [← Ny179.out] at ho57))
               have n0_ := M_ (Kd.R_elder' (by (with_reducible repeat (first | apply ra_ | apply rn_ | apply rd_)); exact HO_5.out) (Kd.R_base ho57) hb)
               have n1_ := M_ (Kd.R_lower (Kd.R_newB (Kd.R_new' ho57 (Kd.R_lt (by (with_reducible repeat (first | apply ra_ | apply rn_ | apply rd_)); exact HO_5.out))) (g := gb178) (o := .cells #[.int .i64 ((rd_T92 l1 x12_1).f0), .int .i64 ((rd_T92 l1 x12_1).f1), .int .i64 ((rd_T92 l1 x12_1).f2)] 92 (0, 0)) (by (with_reducible repeat (first | refine kn_ ?_ _ | refine kd_ ?_ | refine ka_ ?_ _)); exact BK178.out)) (below_size (by repeat (first | (with_reducible first | exact HB.out | apply ba_ | apply bn_ | apply b1_ | refine bs_ ?_ GE176.out | refine bs_ ?_ GE178.out) | exact HB.out))))
               have n2_ := M_ (blk_below (g := gb176) (o := .cells #[.slice A0_0 l0_0.length c0_0, .int .i64 a0_1] 59 (0, 0)) (by (with_reducible repeat (first | refine kn_ ?_ _ | refine kd_ ?_ | refine ka_ ?_ _)); exact BK176.out) hb)
               have n3_ := M_ (blk_below (g := gb178) (o := .cells #[.int .i64 ((rd_T92 l1 x12_1).f0), .int .i64 ((rd_T92 l1 x12_1).f1), .int .i64 ((rd_T92 l1 x12_1).f2)] 92 (0, 0)) (by (with_reducible repeat (first | refine kn_ ?_ _ | refine kd_ ?_ | refine ka_ ?_ _)); exact BK178.out) hb)
               have n4_ := M_ (below_step (by repeat (first | (with_reducible first | exact HB.out | apply ba_ | apply bn_ | apply b1_ | refine bs_ ?_ GE176.out | refine bs_ ?_ GE178.out) | exact HB.out)) hb)
               clear HO_5
               clear BK176
               clear BK178
               clear HB
               have HO_5 := n0_
               have HO181 := n1_
               have BK176 := n2_
               have BK178 := n3_
               have HB := n4_
               clear n0_ n1_ n2_ n3_ n4_
               clear hb ho57
               refine hK.out _ _ ⟨(blk_cell BK178.out 0).trans rfl, (blk_cell BK178.out 1).trans rfl, (blk_cell BK178.out 2).trans rfl⟩ (fun hHeld => ?_)
               clear hK K
               refine norm_ (a' := ?_) ?_ ?_
               rotate_left
               ·show Act.put _ (some 16) _ = _
                simp only [Act.put, la_, lb_, lc_, i64_w, i32_w]
                rfl
               refine two_ (i := 2) (j := 4) (Ni := some 18) (Nj := some 20) #[true, true, true, true, false, false, false] #[true, true, false, true, true, false, false] rfl rfl rfl rfl (by kernel_rfl) (by decide) (by decide) (fun K hK => ?_) (fun K hK => ?_)
               ·skip
                refine Kd.R_append_rows_step k92 (w0 := w) w.heap.size (by rfl) (.tmp 16) (.tmp 17) 24 92 (.agg #[(.int .i64 0), (.int .i64 0), (.int .i64 0)]) 24 rfl Try.underlying24 info92 rfl (by decide) (by omega) v180 y179 x5_1 _ _ _ (fun k_ => some k_ ≠ (.slice Ao53 x5_1.length co53 : Value).ownBlock ∧ k_ ≠ gb178) (fun _ => False) rfl rfl ?aO ?aR (fun _ _ h => h) (fun _ h => h.elim) ?aF ?aB ?aS ?aL ?_
                (case aR => repeat (first | exact (Kd.R_reads' HO_5.out).2.2 | (with_reducible refine Kd.C_alloc ?_ _) | (with_reducible refine Kd.C_drewN ?_ _) | (with_reducible refine Kd.C_drew ?_)))
                (case aB => exact (by repeat (first | (with_reducible first | exact HB.out | apply ba_ | apply bn_ | apply b1_ | refine bs_ ?_ GE176.out | refine bs_ ?_ GE178.out) | exact HB.out)))
                (case aF => exact (fun k_ hk => ⟨Kd.fresh' (Kd.R_lt (by (with_reducible repeat (first | apply ra_ | apply rn_ | apply rd_)); exact HO_5.out)) k_ hk, Kd.freshB (g := gb178) (o := .cells #[.int .i64 ((rd_T92 l1 x12_1).f0), .int .i64 ((rd_T92 l1 x12_1).f1), .int .i64 ((rd_T92 l1 x12_1).f2)] 92 (0, 0)) (by (with_reducible repeat (first | refine kn_ ?_ _ | refine kd_ ?_ | refine ka_ ?_ _)); exact BK178.out) k_ hk⟩))
                (case aO => exact (by (with_reducible repeat (first | apply ra_ | apply rn_ | apply rd_)); first | exact rm_ HO181.out (fun _ hk => ⟨hk.1.2, hk.2⟩) | exact rm_ HO181.out (fun _ hk => by refine ⟨?_, ?_⟩ <;> (first | exact hk.2 | exact hk.2.1 | exact hk.2.2 | exact hk.1.2 | exact hk.1.2.1 | exact hk.1.2.2 | exact hk.1.1.2 | exact hk.1.1.2.1 | exact hk.1.1.2.2 | exact hk.1.1.1.2 | exact hk.1.1.1.2.1 | exact hk.1.1.1.2.2 | exact hk.1.1.1.1.2 | exact hk.1.1.1.1.2.1 | exact hk.1.1.1.1.2.2 | exact hk | exact hk.1 | exact hk.1.1 | exact hk.1.1.1 | exact hk.1.1.1.1 | exact hk.1.1.1.1.1))))
                (case aS => exact (below_size (by repeat (first | (with_reducible first | exact HB.out | apply ba_ | apply bn_ | apply b1_ | refine bs_ ?_ GE176.out | refine bs_ ?_ GE178.out) | exact HB.out))))
                (case aL => have := LMc7.out; omega)
                intro v183 w58 ho hb hg hat
                rw [← Ny182.out] at ho
                have n0_ := M_ (Kd.R_after (ok := (fun k_ => k_ ≠ gb178)) (by (with_reducible repeat (first | apply ra_ | apply rn_ | apply rd_)); exact HO_5.out) hg hat)
                have n1_ := M_ (blk_grown (g := gb176) (o := .cells #[.slice A0_0 l0_0.length c0_0, .int .i64 a0_1] 59 (0, 0)) (by (with_reducible repeat (first | refine kn_ ?_ _ | refine kd_ ?_ | refine ka_ ?_ _)); exact BK176.out) hg (Kd.R_ne HO181.out BK176.out (by decide)))
                have n2_ := M_ (blk_grown (g := gb178) (o := .cells #[.int .i64 ((rd_T92 l1 x12_1).f0), .int .i64 ((rd_T92 l1 x12_1).f1), .int .i64 ((rd_T92 l1 x12_1).f2)] 92 (0, 0)) (by (with_reducible repeat (first | refine kn_ ?_ _ | refine kd_ ?_ | refine ka_ ?_ _)); exact BK178.out) hg (Kd.R_away HO181.out (fun _ hk => hk.2)))
                have n3_ := M_ (hb)
                have n4_ := M_ (ho)
                clear HO_5
                clear BK176
                clear BK178
                clear HB
                clear HO181
                have HO_5 := n0_
                have BK176 := n1_
                have BK178 := n2_
                have HB := n3_
                have HO184 := n4_
                clear n0_ n1_ n2_ n3_ n4_
                clear ho hb hg hat
                refine hK.out _ _ ⟨(blk_cell BK178.out 0).trans rfl, (blk_cell BK178.out 1).trans rfl, (blk_cell BK178.out 2).trans rfl⟩ (fun hHeld => ?_)
                clear hK K
                refine norm_ (a' := ?_) ?_ ?_
                rotate_left
                ·show Act.put _ (some 18) _ = _
                 simp only [Act.put, la_, lb_, lc_, i64_w, i32_w]
                 rfl
                refine one_ (i := 4) (N := some 20) #[true, true, true, true, true, false, false] rfl rfl (by kernel_rfl) (by decide) (fun K hK => ?_)
                refine Kd.R_lit_step k92 _ 92 ?hg (N := 20) ?hd (xs := ([(⟨(rd_T92 l1 x12_1).f0, (rd_T92 l1 x12_1).f1, (rd_T92 l1 x12_1).f2⟩ : S92)] : List (S92))) (inner := [.int .i64 ((rd_T92 l1 x12_1).f0), .int .i64 ((rd_T92 l1 x12_1).f1), .int .i64 ((rd_T92 l1 x12_1).f2)]) (ok := fun _ => True) (okp := fun _ => True) ?hr ?hp (fun _ hk => hk) trivial (Below.refl _ _) (Nat.le_refl _) (by simp) ?_; (case hd => rfl); (case hg => rfl); (case hr => first | (go_simp; done) | (go_simp; rfl)); (case hp => exact (Reps.c3 (show Kd.M k92 _ _ _ (⟨(rd_T92 l1 x12_1).f0, (rd_T92 l1 x12_1).f1, (rd_T92 l1 x12_1).f2⟩ : S92) [.int .i64 ((rd_T92 l1 x12_1).f0), .int .i64 ((rd_T92 l1 x12_1).f1), .int .i64 ((rd_T92 l1 x12_1).f2)] from (k92_mkM _ _ _ (⟨(rd_T92 l1 x12_1).f0, (rd_T92 l1 x12_1).f1, (rd_T92 l1 x12_1).f2⟩ : S92) )) (Reps.none _ _)))
                intro v186 w59 ho60 hb hg_ hnew_
                clear hg_ hnew_
                (first | rw [← Ny185.out] at ho60 | (simp only [Int.reduceToNat] at ho60; rw [← Ny185.out] at ho60))
                have n0_ := M_ (Kd.R_elder' (by (with_reducible repeat (first | apply ra_ | apply rn_ | apply rd_)); exact HO_5.out) (Kd.R_base ho60) hb)
                have n1_ := M_ (Kd.R_elder' (by (with_reducible repeat (first | apply ra_ | apply rn_ | apply rd_)); exact HO184.out) (Kd.R_base ho60) hb)
                have n2_ := M_ (Kd.R_lower (Kd.R_newB (Kd.R_new' (Kd.R_new' ho60 (Kd.R_lt (by (with_reducible repeat (first | apply ra_ | apply rn_ | apply rd_)); exact HO_5.out))) (Kd.R_lt (by (with_reducible repeat (first | apply ra_ | apply rn_ | apply rd_)); exact HO184.out))) (g := gb178) (o := .cells #[.int .i64 ((rd_T92 l1 x12_1).f0), .int .i64 ((rd_T92 l1 x12_1).f1), .int .i64 ((rd_T92 l1 x12_1).f2)] 92 (0, 0)) (by (with_reducible repeat (first | refine kn_ ?_ _ | refine kd_ ?_ | refine ka_ ?_ _)); exact BK178.out)) (below_size (by repeat (first | (with_reducible first | exact HB.out | apply ba_ | apply bn_ | apply b1_ | refine bs_ ?_ GE176.out | refine bs_ ?_ GE178.out) | exact HB.out))))
                have n3_ := M_ (blk_below (g := gb176) (o := .cells #[.slice A0_0 l0_0.length c0_0, .int .i64 a0_1] 59 (0, 0)) (by (with_reducible repeat (first | refine kn_ ?_ _ | refine kd_ ?_ | refine ka_ ?_ _)); exact BK176.out) hb)
                have n4_ := M_ (blk_below (g := gb178) (o := .cells #[.int .i64 ((rd_T92 l1 x12_1).f0), .int .i64 ((rd_T92 l1 x12_1).f1), .int .i64 ((rd_T92 l1 x12_1).f2)] 92 (0, 0)) (by (with_reducible repeat (first | refine kn_ ?_ _ | refine kd_ ?_ | refine ka_ ?_ _)); exact BK178.out) hb)
                have n5_ := M_ (below_step (by repeat (first | (with_reducible first | exact HB.out | apply ba_ | apply bn_ | apply b1_ | refine bs_ ?_ GE176.out | refine bs_ ?_ GE178.out) | exact HB.out)) hb)
                clear HO_5
                clear HO184
                clear BK176
                clear BK178
                clear HB
                have HO_5 := n0_
                have HO184 := n1_
                have HO187 := n2_
                have BK176 := n3_
                have BK178 := n4_
                have HB := n5_
                clear n0_ n1_ n2_ n3_ n4_ n5_
                clear hb ho60
                refine hK.out _ _ ⟨(blk_cell BK178.out 0).trans rfl, (blk_cell BK178.out 1).trans rfl, (blk_cell BK178.out 2).trans rfl⟩ (fun hHeld => ?_)
                clear hK K
                refine norm_ (a' := ?_) ?_ ?_
                rotate_left
                ·show Act.put _ (some 20) _ = _
                 simp only [Act.put, la_, lb_, lc_, i64_w, i32_w]
                 rfl
                exact norm_ (by simp only [putAll, Act.put, la_, lb_, lc_]) (hCont (v180, v183, v186) _ ⟨hHeld, (by (with_reducible repeat (first | apply ra_ | apply rn_ | apply rd_)); exact rm_ HO184.out (fun _ hk => ⟨hk.2, ⟨hk.1.1, hk.1.2⟩⟩)), (by (with_reducible repeat (first | apply ra_ | apply rn_ | apply rd_)); exact rm_ HO187.out (fun _ hk => ⟨hk.1.2, ⟨hk.1.1.2, hk.2⟩⟩)), (by (with_reducible repeat (first | apply ra_ | apply rn_ | apply rd_)); exact rm_ HO_5.out (fun _ hk => ⟨hk.1.2, ⟨hk.2, hk.1.1⟩⟩)), (by (with_reducible repeat (first | refine kn_ ?_ _ | refine kd_ ?_ | refine ka_ ?_ _)); exact BK176.out), (by (with_reducible repeat (first | refine kn_ ?_ _ | refine kd_ ?_ | refine ka_ ?_ _)); exact BK178.out), (by repeat (first | (with_reducible first | exact HB.out | apply ba_ | apply bn_ | apply b1_ | refine bs_ ?_ GE176.out | refine bs_ ?_ GE178.out) | exact HB.out))⟩)
               ·skip
                refine Kd.R_lit_step k92 _ 92 ?hg (N := 20) ?hd (xs := ([(⟨(rd_T92 l1 x12_1).f0, (rd_T92 l1 x12_1).f1, (rd_T92 l1 x12_1).f2⟩ : S92)] : List (S92))) (inner := [.int .i64 ((rd_T92 l1 x12_1).f0), .int .i64 ((rd_T92 l1 x12_1).f1), .int .i64 ((rd_T92 l1 x12_1).f2)]) (ok := fun _ => True) (okp := fun _ => True) ?hr ?hp (fun _ hk => hk) trivial (Below.refl _ _) (Nat.le_refl _) (by simp) ?_; (case hd => rfl); (case hg => rfl); (case hr => first | (go_simp; done) | (go_simp; rfl)); (case hp => exact (Reps.c3 (show Kd.M k92 _ _ _ (⟨(rd_T92 l1 x12_1).f0, (rd_T92 l1 x12_1).f1, (rd_T92 l1 x12_1).f2⟩ : S92) [.int .i64 ((rd_T92 l1 x12_1).f0), .int .i64 ((rd_T92 l1 x12_1).f1), .int .i64 ((rd_T92 l1 x12_1).f2)] from (k92_mkM _ _ _ (⟨(rd_T92 l1 x12_1).f0, (rd_T92 l1 x12_1).f1, (rd_T92 l1 x12_1).f2⟩ : S92) )) (Reps.none _ _)))
                intro v186 w58 ho59 hb hg_ hnew_
                clear hg_ hnew_
                (first | rw [← Ny185.out] at ho59 | (simp only [Int.reduceToNat] at ho59; rw [← Ny185.out] at ho59))
                have n0_ := M_ (Kd.R_elder' (by (with_reducible repeat (first | apply ra_ | apply rn_ | apply rd_)); exact HO_5.out) (Kd.R_base ho59) hb)
                have n1_ := M_ (Kd.R_elder' (by (with_reducible repeat (first | apply ra_ | apply rn_ | apply rd_)); exact HO181.out) (Kd.R_base ho59) hb)
                have n2_ := M_ (Kd.R_lower (Kd.R_newB (Kd.R_new' (Kd.R_new' ho59 (Kd.R_lt (by (with_reducible repeat (first | apply ra_ | apply rn_ | apply rd_)); exact HO_5.out))) (Kd.R_lt (by (with_reducible repeat (first | apply ra_ | apply rn_ | apply rd_)); exact HO181.out))) (g := gb178) (o := .cells #[.int .i64 ((rd_T92 l1 x12_1).f0), .int .i64 ((rd_T92 l1 x12_1).f1), .int .i64 ((rd_T92 l1 x12_1).f2)] 92 (0, 0)) (by (with_reducible repeat (first | refine kn_ ?_ _ | refine kd_ ?_ | refine ka_ ?_ _)); exact BK178.out)) (below_size (by repeat (first | (with_reducible first | exact HB.out | apply ba_ | apply bn_ | apply b1_ | refine bs_ ?_ GE176.out | refine bs_ ?_ GE178.out) | exact HB.out))))
                have n3_ := M_ (blk_below (g := gb176) (o := .cells #[.slice A0_0 l0_0.length c0_0, .int .i64 a0_1] 59 (0, 0)) (by (with_reducible repeat (first | refine kn_ ?_ _ | refine kd_ ?_ | refine ka_ ?_ _)); exact BK176.out) hb)
                have n4_ := M_ (blk_below (g := gb178) (o := .cells #[.int .i64 ((rd_T92 l1 x12_1).f0), .int .i64 ((rd_T92 l1 x12_1).f1), .int .i64 ((rd_T92 l1 x12_1).f2)] 92 (0, 0)) (by (with_reducible repeat (first | refine kn_ ?_ _ | refine kd_ ?_ | refine ka_ ?_ _)); exact BK178.out) hb)
                have n5_ := M_ (below_step (by repeat (first | (with_reducible first | exact HB.out | apply ba_ | apply bn_ | apply b1_ | refine bs_ ?_ GE176.out | refine bs_ ?_ GE178.out) | exact HB.out)) hb)
                clear HO_5
                clear HO181
                clear BK176
                clear BK178
                clear HB
                have HO_5 := n0_
                have HO181 := n1_
                have HO187 := n2_
                have BK176 := n3_
                have BK178 := n4_
                have HB := n5_
                clear n0_ n1_ n2_ n3_ n4_ n5_
                clear hb ho59
                refine hK.out _ _ ⟨(blk_cell BK178.out 0).trans rfl, (blk_cell BK178.out 1).trans rfl, (blk_cell BK178.out 2).trans rfl⟩ (fun hHeld => ?_)
                clear hK K
                refine norm_ (a' := ?_) ?_ ?_
                rotate_left
                ·show Act.put _ (some 20) _ = _
                 simp only [Act.put, la_, lb_, lc_, i64_w, i32_w]
                 rfl
                refine one_ (i := 2) (N := some 18) #[true, true, true, true, true, false, false] rfl rfl (by kernel_rfl) (by decide) (fun K hK => ?_)
                refine Kd.R_append_rows_step k92 (w0 := w) w.heap.size (by rfl) (.tmp 16) (.tmp 17) 24 92 (.agg #[(.int .i64 0), (.int .i64 0), (.int .i64 0)]) 24 rfl Try.underlying24 info92 rfl (by decide) (by omega) v180 y179 x5_1 _ _ _ (fun k_ => some k_ ≠ (.slice Ao53 x5_1.length co53 : Value).ownBlock ∧ some k_ ≠ (v186 : Value).ownBlock ∧ k_ ≠ gb178) (fun _ => False) rfl rfl ?aO ?aR (fun _ _ h => h) (fun _ h => h.elim) ?aF ?aB ?aS ?aL ?_
                (case aR => repeat (first | exact (Kd.R_reads' HO_5.out).2.2 | (with_reducible refine Kd.C_alloc ?_ _) | (with_reducible refine Kd.C_drewN ?_ _) | (with_reducible refine Kd.C_drew ?_)))
                (case aB => exact (by repeat (first | (with_reducible first | exact HB.out | apply ba_ | apply bn_ | apply b1_ | refine bs_ ?_ GE176.out | refine bs_ ?_ GE178.out) | exact HB.out)))
                (case aF => exact (fun k_ hk => ⟨Kd.fresh' (Kd.R_lt (by (with_reducible repeat (first | apply ra_ | apply rn_ | apply rd_)); exact HO_5.out)) k_ hk, Kd.fresh' (Kd.R_lt (by (with_reducible repeat (first | apply ra_ | apply rn_ | apply rd_)); exact HO187.out)) k_ hk, Kd.freshB (g := gb178) (o := .cells #[.int .i64 ((rd_T92 l1 x12_1).f0), .int .i64 ((rd_T92 l1 x12_1).f1), .int .i64 ((rd_T92 l1 x12_1).f2)] 92 (0, 0)) (by (with_reducible repeat (first | refine kn_ ?_ _ | refine kd_ ?_ | refine ka_ ?_ _)); exact BK178.out) k_ hk⟩))
                (case aO => exact (by (with_reducible repeat (first | apply ra_ | apply rn_ | apply rd_)); exact rm_ HO181.out (fun _ hk => ⟨hk.1.1.2, ⟨hk.2, hk.1.2⟩⟩)))
                (case aS => exact (below_size (by repeat (first | (with_reducible first | exact HB.out | apply ba_ | apply bn_ | apply b1_ | refine bs_ ?_ GE176.out | refine bs_ ?_ GE178.out) | exact HB.out))))
                (case aL => have := LMc7.out; omega)
                intro v183 w60 ho hb hg hat
                rw [← Ny182.out] at ho
                have n0_ := M_ (Kd.R_after (ok := (fun k_ => some k_ ≠ (v186 : Value).ownBlock ∧ k_ ≠ gb178)) (by (with_reducible repeat (first | apply ra_ | apply rn_ | apply rd_)); exact rm_ HO_5.out (fun _ hk => ⟨⟨hk.2, hk.1.1⟩, hk.1.2⟩)) hg hat)
                have n1_ := M_ (blk_grown (g := gb176) (o := .cells #[.slice A0_0 l0_0.length c0_0, .int .i64 a0_1] 59 (0, 0)) (by (with_reducible repeat (first | refine kn_ ?_ _ | refine kd_ ?_ | refine ka_ ?_ _)); exact BK176.out) hg (Kd.R_ne HO181.out BK176.out (by decide)))
                have n2_ := M_ (blk_grown (g := gb178) (o := .cells #[.int .i64 ((rd_T92 l1 x12_1).f0), .int .i64 ((rd_T92 l1 x12_1).f1), .int .i64 ((rd_T92 l1 x12_1).f2)] 92 (0, 0)) (by (with_reducible repeat (first | refine kn_ ?_ _ | refine kd_ ?_ | refine ka_ ?_ _)); exact BK178.out) hg (Kd.R_away HO181.out (fun _ hk => hk.1.2)))
                have n3_ := M_ (Kd.R_after (ok := (fun k_ => some k_ ≠ (.slice Ao53 x5_1.length co53 : Value).ownBlock ∧ k_ ≠ gb178)) (by (with_reducible repeat (first | apply ra_ | apply rn_ | apply rd_)); exact rm_ HO187.out (fun _ hk => ⟨⟨hk.1.1.2, hk.2⟩, hk.1.2⟩)) hg hat)
                have n4_ := M_ (hb)
                have n5_ := M_ (ho)
                clear HO_5
                clear BK176
                clear BK178
                clear HO187
                clear HB
                clear HO181
                have HO_5 := n0_
                have BK176 := n1_
                have BK178 := n2_
                have HO187 := n3_
                have HB := n4_
                have HO184 := n5_
                clear n0_ n1_ n2_ n3_ n4_ n5_
                clear ho hb hg hat
                refine hK.out _ _ ⟨(blk_cell BK178.out 0).trans rfl, (blk_cell BK178.out 1).trans rfl, (blk_cell BK178.out 2).trans rfl⟩ (fun hHeld => ?_)
                clear hK K
                refine norm_ (a' := ?_) ?_ ?_
                rotate_left
                ·show Act.put _ (some 18) _ = _
                 simp only [Act.put, la_, lb_, lc_, i64_w, i32_w]
                 rfl
                exact norm_ (by simp only [putAll, Act.put, la_, lb_, lc_]) (hCont (v180, v183, v186) _ ⟨hHeld, (by (with_reducible repeat (first | apply ra_ | apply rn_ | apply rd_)); exact rm_ HO184.out (fun _ hk => ⟨hk.2.1, ⟨hk.1, hk.2.2⟩⟩)), (by (with_reducible repeat (first | apply ra_ | apply rn_ | apply rd_)); exact rm_ HO187.out (fun _ hk => ⟨hk.2, ⟨hk.1.1, hk.1.2⟩⟩)), (by (with_reducible repeat (first | apply ra_ | apply rn_ | apply rd_)); exact rm_ HO_5.out (fun _ hk => ⟨hk.2, ⟨hk.1.1, hk.1.2⟩⟩)), (by (with_reducible repeat (first | refine kn_ ?_ _ | refine kd_ ?_ | refine ka_ ?_ _)); exact BK176.out), (by (with_reducible repeat (first | refine kn_ ?_ _ | refine kd_ ?_ | refine ka_ ?_ _)); exact BK178.out), (by repeat (first | (with_reducible first | exact HB.out | apply ba_ | apply bn_ | apply b1_ | refine bs_ ?_ GE176.out | refine bs_ ?_ GE178.out) | exact HB.out))⟩)
              ·skip
               refine Kd.R_lit_step k92 _ 92 ?hg (N := 20) ?hd (xs := ([(⟨(rd_T92 l1 x12_1).f0, (rd_T92 l1 x12_1).f1, (rd_T92 l1 x12_1).f2⟩ : S92)] : List (S92))) (inner := [.int .i64 ((rd_T92 l1 x12_1).f0), .int .i64 ((rd_T92 l1 x12_1).f1), .int .i64 ((rd_T92 l1 x12_1).f2)]) (ok := fun _ => True) (okp := fun _ => True) ?hr ?hp (fun _ hk => hk) trivial (Below.refl _ _) (Nat.le_refl _) (by simp) ?_; (case hd => rfl); (case hg => rfl); (case hr => first | (go_simp; done) | (go_simp; rfl)); (case hp => exact (Reps.c3 (show Kd.M k92 _ _ _ (⟨(rd_T92 l1 x12_1).f0, (rd_T92 l1 x12_1).f1, (rd_T92 l1 x12_1).f2⟩ : S92) [.int .i64 ((rd_T92 l1 x12_1).f0), .int .i64 ((rd_T92 l1 x12_1).f1), .int .i64 ((rd_T92 l1 x12_1).f2)] from (k92_mkM _ _ _ (⟨(rd_T92 l1 x12_1).f0, (rd_T92 l1 x12_1).f1, (rd_T92 l1 x12_1).f2⟩ : S92) )) (Reps.none _ _)))
               intro v186 w56 ho57 hb hg_ hnew_
               clear hg_ hnew_
               (first | rw [← Ny185.out] at ho57 | (simp only [Int.reduceToNat] at ho57; rw [← Ny185.out] at ho57))
               have n0_ := M_ (Kd.R_elder' (by (with_reducible repeat (first | apply ra_ | apply rn_ | apply rd_)); exact HO_5.out) (Kd.R_base ho57) hb)
               have n1_ := M_ (Kd.R_lower (Kd.R_newB (Kd.R_new' ho57 (Kd.R_lt (by (with_reducible repeat (first | apply ra_ | apply rn_ | apply rd_)); exact HO_5.out))) (g := gb178) (o := .cells #[.int .i64 ((rd_T92 l1 x12_1).f0), .int .i64 ((rd_T92 l1 x12_1).f1), .int .i64 ((rd_T92 l1 x12_1).f2)] 92 (0, 0)) (by (with_reducible repeat (first | refine kn_ ?_ _ | refine kd_ ?_ | refine ka_ ?_ _)); exact BK178.out)) (below_size (by repeat (first | (with_reducible first | exact HB.out | apply ba_ | apply bn_ | apply b1_ | refine bs_ ?_ GE176.out | refine bs_ ?_ GE178.out) | exact HB.out))))
               have n2_ := M_ (blk_below (g := gb176) (o := .cells #[.slice A0_0 l0_0.length c0_0, .int .i64 a0_1] 59 (0, 0)) (by (with_reducible repeat (first | refine kn_ ?_ _ | refine kd_ ?_ | refine ka_ ?_ _)); exact BK176.out) hb)
               have n3_ := M_ (blk_below (g := gb178) (o := .cells #[.int .i64 ((rd_T92 l1 x12_1).f0), .int .i64 ((rd_T92 l1 x12_1).f1), .int .i64 ((rd_T92 l1 x12_1).f2)] 92 (0, 0)) (by (with_reducible repeat (first | refine kn_ ?_ _ | refine kd_ ?_ | refine ka_ ?_ _)); exact BK178.out) hb)
               have n4_ := M_ (below_step (by repeat (first | (with_reducible first | exact HB.out | apply ba_ | apply bn_ | apply b1_ | refine bs_ ?_ GE176.out | refine bs_ ?_ GE178.out) | exact HB.out)) hb)
               clear HO_5
               clear BK176
               clear BK178
               clear HB
               have HO_5 := n0_
               have HO187 := n1_
               have BK176 := n2_
               have BK178 := n3_
               have HB := n4_
               clear n0_ n1_ n2_ n3_ n4_
               clear hb ho57
               refine hK.out _ _ ⟨(blk_cell BK178.out 0).trans rfl, (blk_cell BK178.out 1).trans rfl, (blk_cell BK178.out 2).trans rfl⟩ (fun hHeld => ?_)
               clear hK K
               refine norm_ (a' := ?_) ?_ ?_
               rotate_left
               ·show Act.put _ (some 20) _ = _
                simp only [Act.put, la_, lb_, lc_, i64_w, i32_w]
                rfl
               refine one_ (i := 0) (N := some 16) #[true, true, false, true, true, false, false] rfl rfl (by kernel_rfl) (by decide) (fun K hK => ?_)
               refine Kd.R_lit_step k92 _ 92 ?hg (N := 16) ?hd (xs := ([] : List (S92))) (inner := []) (ok := fun _ => True) (okp := fun _ => True) ?hr ?hp (fun _ hk => hk) trivial (Below.refl _ _) (Nat.le_refl _) (by simp) ?_; (case hd => rfl); (case hg => rfl); (case hr => first | (go_simp; done) | (go_simp; rfl)); (case hp => exact (Reps.none _ _))
               intro v180 w58 ho59 hb hg_ hnew_
               clear hg_ hnew_
               (first | rw [← Ny179.out] at ho59 | (simp only [Int.reduceToNat] at ho59; rw [← Ny179.out] at ho59))
               have n0_ := M_ (Kd.R_elder' (by (with_reducible repeat (first | apply ra_ | apply rn_ | apply rd_)); exact HO_5.out) (Kd.R_base ho59) hb)
               have n1_ := M_ (Kd.R_elder' (by (with_reducible repeat (first | apply ra_ | apply rn_ | apply rd_)); exact HO187.out) (Kd.R_base ho59) hb)
               have n2_ := M_ (Kd.R_lower (Kd.R_newB (Kd.R_new' (Kd.R_new' ho59 (Kd.R_lt (by (with_reducible repeat (first | apply ra_ | apply rn_ | apply rd_)); exact HO_5.out))) (Kd.R_lt (by (with_reducible repeat (first | apply ra_ | apply rn_ | apply rd_)); exact HO187.out))) (g := gb178) (o := .cells #[.int .i64 ((rd_T92 l1 x12_1).f0), .int .i64 ((rd_T92 l1 x12_1).f1), .int .i64 ((rd_T92 l1 x12_1).f2)] 92 (0, 0)) (by (with_reducible repeat (first | refine kn_ ?_ _ | refine kd_ ?_ | refine ka_ ?_ _)); exact BK178.out)) (below_size (by repeat (first | (with_reducible first | exact HB.out | apply ba_ | apply bn_ | apply b1_ | refine bs_ ?_ GE176.out | refine bs_ ?_ GE178.out) | exact HB.out))))
               have n3_ := M_ (blk_below (g := gb176) (o := .cells #[.slice A0_0 l0_0.length c0_0, .int .i64 a0_1] 59 (0, 0)) (by (with_reducible repeat (first | refine kn_ ?_ _ | refine kd_ ?_ | refine ka_ ?_ _)); exact BK176.out) hb)
               have n4_ := M_ (blk_below (g := gb178) (o := .cells #[.int .i64 ((rd_T92 l1 x12_1).f0), .int .i64 ((rd_T92 l1 x12_1).f1), .int .i64 ((rd_T92 l1 x12_1).f2)] 92 (0, 0)) (by (with_reducible repeat (first | refine kn_ ?_ _ | refine kd_ ?_ | refine ka_ ?_ _)); exact BK178.out) hb)
               have n5_ := M_ (below_step (by repeat (first | (with_reducible first | exact HB.out | apply ba_ | apply bn_ | apply b1_ | refine bs_ ?_ GE176.out | refine bs_ ?_ GE178.out) | exact HB.out)) hb)
               clear HO_5
               clear HO187
               clear BK176
               clear BK178
               clear HB
               have HO_5 := n0_
               have HO187 := n1_
               have HO181 := n2_
               have BK176 := n3_
               have BK178 := n4_
               have HB := n5_
               clear n0_ n1_ n2_ n3_ n4_ n5_
               clear hb ho59
               refine hK.out _ _ ⟨(blk_cell BK178.out 0).trans rfl, (blk_cell BK178.out 1).trans rfl, (blk_cell BK178.out 2).trans rfl⟩ (fun hHeld => ?_)
               clear hK K
               refine norm_ (a' := ?_) ?_ ?_
               rotate_left
               ·show Act.put _ (some 16) _ = _
                simp only [Act.put, la_, lb_, lc_, i64_w, i32_w]
                rfl
               refine one_ (i := 2) (N := some 18) #[true, true, true, true, true, false, false] rfl rfl (by kernel_rfl) (by decide) (fun K hK => ?_)
               refine Kd.R_append_rows_step k92 (w0 := w) w.heap.size (by rfl) (.tmp 16) (.tmp 17) 24 92 (.agg #[(.int .i64 0), (.int .i64 0), (.int .i64 0)]) 24 rfl Try.underlying24 info92 rfl (by decide) (by omega) v180 y179 x5_1 _ _ _ (fun k_ => some k_ ≠ (.slice Ao53 x5_1.length co53 : Value).ownBlock ∧ some k_ ≠ (v186 : Value).ownBlock ∧ k_ ≠ gb178) (fun _ => False) rfl rfl ?aO ?aR (fun _ _ h => h) (fun _ h => h.elim) ?aF ?aB ?aS ?aL ?_
               (case aR => repeat (first | exact (Kd.R_reads' HO_5.out).2.2 | (with_reducible refine Kd.C_alloc ?_ _) | (with_reducible refine Kd.C_drewN ?_ _) | (with_reducible refine Kd.C_drew ?_)))
               (case aB => exact (by repeat (first | (with_reducible first | exact HB.out | apply ba_ | apply bn_ | apply b1_ | refine bs_ ?_ GE176.out | refine bs_ ?_ GE178.out) | exact HB.out)))
               (case aF => exact (fun k_ hk => ⟨Kd.fresh' (Kd.R_lt (by (with_reducible repeat (first | apply ra_ | apply rn_ | apply rd_)); exact HO_5.out)) k_ hk, Kd.fresh' (Kd.R_lt (by (with_reducible repeat (first | apply ra_ | apply rn_ | apply rd_)); exact HO187.out)) k_ hk, Kd.freshB (g := gb178) (o := .cells #[.int .i64 ((rd_T92 l1 x12_1).f0), .int .i64 ((rd_T92 l1 x12_1).f1), .int .i64 ((rd_T92 l1 x12_1).f2)] 92 (0, 0)) (by (with_reducible repeat (first | refine kn_ ?_ _ | refine kd_ ?_ | refine ka_ ?_ _)); exact BK178.out) k_ hk⟩))
               (case aO => exact (by (with_reducible repeat (first | apply ra_ | apply rn_ | apply rd_)); exact rm_ HO181.out (fun _ hk => ⟨hk.1.1.2, ⟨hk.1.2, hk.2⟩⟩)))
               (case aS => exact (below_size (by repeat (first | (with_reducible first | exact HB.out | apply ba_ | apply bn_ | apply b1_ | refine bs_ ?_ GE176.out | refine bs_ ?_ GE178.out) | exact HB.out))))
               (case aL => have := LMc7.out; omega)
               intro v183 w60 ho hb hg hat
               rw [← Ny182.out] at ho
               have n0_ := M_ (Kd.R_after (ok := (fun k_ => some k_ ≠ (v186 : Value).ownBlock ∧ k_ ≠ gb178)) (by (with_reducible repeat (first | apply ra_ | apply rn_ | apply rd_)); exact rm_ HO_5.out (fun _ hk => ⟨⟨hk.1.2, hk.1.1⟩, hk.2⟩)) hg hat)
               have n1_ := M_ (blk_grown (g := gb176) (o := .cells #[.slice A0_0 l0_0.length c0_0, .int .i64 a0_1] 59 (0, 0)) (by (with_reducible repeat (first | refine kn_ ?_ _ | refine kd_ ?_ | refine ka_ ?_ _)); exact BK176.out) hg (Kd.R_ne HO181.out BK176.out (by decide)))
               have n2_ := M_ (blk_grown (g := gb178) (o := .cells #[.int .i64 ((rd_T92 l1 x12_1).f0), .int .i64 ((rd_T92 l1 x12_1).f1), .int .i64 ((rd_T92 l1 x12_1).f2)] 92 (0, 0)) (by (with_reducible repeat (first | refine kn_ ?_ _ | refine kd_ ?_ | refine ka_ ?_ _)); exact BK178.out) hg (Kd.R_away HO181.out (fun _ hk => hk.2)))
               have n3_ := M_ (Kd.R_after (ok := (fun k_ => some k_ ≠ (.slice Ao53 x5_1.length co53 : Value).ownBlock ∧ k_ ≠ gb178)) (by (with_reducible repeat (first | apply ra_ | apply rn_ | apply rd_)); exact rm_ HO187.out (fun _ hk => ⟨⟨hk.1.1.2, hk.1.2⟩, hk.2⟩)) hg hat)
               have n4_ := M_ (hb)
               have n5_ := M_ (ho)
               clear HO_5
               clear BK176
               clear BK178
               clear HO187
               clear HB
               clear HO181
               have HO_5 := n0_
               have BK176 := n1_
               have BK178 := n2_
               have HO187 := n3_
               have HB := n4_
               have HO184 := n5_
               clear n0_ n1_ n2_ n3_ n4_ n5_
               clear ho hb hg hat
               refine hK.out _ _ ⟨(blk_cell BK178.out 0).trans rfl, (blk_cell BK178.out 1).trans rfl, (blk_cell BK178.out 2).trans rfl⟩ (fun hHeld => ?_)
               clear hK K
               refine norm_ (a' := ?_) ?_ ?_
               rotate_left
               ·show Act.put _ (some 18) _ = _
                simp only [Act.put, la_, lb_, lc_, i64_w, i32_w]
                rfl
               exact norm_ (by simp only [putAll, Act.put, la_, lb_, lc_]) (hCont (v180, v183, v186) _ ⟨hHeld, (by (with_reducible repeat (first | apply ra_ | apply rn_ | apply rd_)); exact rm_ HO184.out (fun _ hk => ⟨hk.2.1, ⟨hk.1, hk.2.2⟩⟩)), (by (with_reducible repeat (first | apply ra_ | apply rn_ | apply rd_)); exact rm_ HO187.out (fun _ hk => ⟨hk.2, ⟨hk.1.1, hk.1.2⟩⟩)), (by (with_reducible repeat (first | apply ra_ | apply rn_ | apply rd_)); exact rm_ HO_5.out (fun _ hk => ⟨hk.2, ⟨hk.1.1, hk.1.2⟩⟩)), (by (with_reducible repeat (first | refine kn_ ?_ _ | refine kd_ ?_ | refine ka_ ?_ _)); exact BK176.out), (by (with_reducible repeat (first | refine kn_ ?_ _ | refine kd_ ?_ | refine ka_ ?_ _)); exact BK178.out), (by repeat (first | (with_reducible first | exact HB.out | apply ba_ | apply bn_ | apply b1_ | refine bs_ ?_ GE176.out | refine bs_ ?_ GE178.out) | exact HB.out))⟩)
             rintro ⟨v180, v183, v186⟩ w61 ⟨hS_, h0_, h1_, h2_, h3_, h4_, h5_⟩
             have n0_ : Aside0 (Kd.R k92 92 w61 w.heap.size (fun k_ => some k_ ≠ (v186 : Value).ownBlock ∧ some k_ ≠ (.slice Ao53 x5_1.length co53 : Value).ownBlock ∧ k_ ≠ gb178) v183 y182) := ⟨h0_⟩
             have n1_ : Aside0 (Kd.R k92 92 w61 w.heap.size (fun k_ => some k_ ≠ (v183 : Value).ownBlock ∧ some k_ ≠ (.slice Ao53 x5_1.length co53 : Value).ownBlock ∧ k_ ≠ gb178) v186 y185) := ⟨h1_⟩
             have n2_ : Aside0 (Kd.R k92 92 w61 w.heap.size (fun k_ => some k_ ≠ (v183 : Value).ownBlock ∧ some k_ ≠ (v186 : Value).ownBlock ∧ k_ ≠ gb178) (.slice Ao53 x5_1.length co53) x5_1) := ⟨h2_⟩
             have n3_ : Aside0 (w61.heap[gb176]? = some (.cells #[.slice A0_0 l0_0.length c0_0, .int .i64 a0_1] 59 (0, 0))) := ⟨h3_⟩
             have n4_ : Aside0 (w61.heap[gb178]? = some (.cells #[.int .i64 ((rd_T92 l1 x12_1).f0), .int .i64 ((rd_T92 l1 x12_1).f1), .int .i64 ((rd_T92 l1 x12_1).f2)] 92 (0, 0))) := ⟨h4_⟩
             have n5_ : Aside0 (Below w.heap.size w w61) := ⟨h5_⟩
             clear HO_5
             clear BK176
             clear BK178
             clear HB
             clear h0_ h1_ h2_ h3_ h4_ h5_
             have HO184 := n0_
             have HO187 := n1_
             have HO_5 := n2_
             have BK176 := n3_
             have BK178 := n4_
             have HB := n5_
             clear n0_ n1_ n2_ n3_ n4_ n5_
             have hHeld : w61.cell? ⟨gb178, 0, none⟩ = some (.int .i64 ((rd_T92 l1 x12_1).f0)) ∧ w61.cell? ⟨gb178, 1, none⟩ = some (.int .i64 ((rd_T92 l1 x12_1).f1)) ∧ w61.cell? ⟨gb178, 2, none⟩ = some (.int .i64 ((rd_T92 l1 x12_1).f2)) := hS_
             obtain ⟨Ao63, co63, eo63⟩ := Kd.R_slice HO187.out
             (first | subst eo63 | (injection eo63 with f1_ f2_ f3_; have f4_ := f1_.symm; have f5_ := f3_.symm; clear f1_ f2_ f3_; subst f4_; subst f5_))
             refine norm_ (a' := ?_) ?_ ?_
             rotate_left
             ·simp only [putAll, Act.put, la_, lb_, lc_]
              rfl
             refine one_ (i := 5) (N := some 21) #[true, true, true, true, true, true, false] rfl rfl (by kernel_rfl) (by decide) (fun K hK => ?_)
             refine Kd.R_append_rows_step k92 (w0 := w) w.heap.size (by rfl) (.tmp 18) (.tmp 20) 24 92 (.agg #[(.int .i64 0), (.int .i64 0), (.int .i64 0)]) 24 rfl Try.underlying24 info92 rfl (by decide) (by omega) v183 y182 y185 _ _ _ (fun k_ => some k_ ≠ (.slice Ao53 x5_1.length co53 : Value).ownBlock ∧ some k_ ≠ (.slice Ao63 y185.length co63 : Value).ownBlock ∧ k_ ≠ gb178) (fun _ => False) rfl rfl ?aO ?aR (fun _ _ h => h) (fun _ h => h.elim) ?aF ?aB ?aS ?aL ?_
             (case aR => repeat (first | exact (Kd.R_reads' HO187.out).2.2 | (with_reducible refine Kd.C_alloc ?_ _) | (with_reducible refine Kd.C_drewN ?_ _) | (with_reducible refine Kd.C_drew ?_)))
             (case aB => exact (by repeat (first | (with_reducible first | exact HB.out | apply ba_ | apply bn_ | apply b1_ | refine bs_ ?_ GE176.out | refine bs_ ?_ GE178.out) | exact HB.out)))
             (case aF => exact (fun k_ hk => ⟨Kd.fresh' (Kd.R_lt (by (with_reducible repeat (first | apply ra_ | apply rn_ | apply rd_)); exact HO_5.out)) k_ hk, Kd.fresh' (Kd.R_lt (by (with_reducible repeat (first | apply ra_ | apply rn_ | apply rd_)); exact HO187.out)) k_ hk, Kd.freshB (g := gb178) (o := .cells #[.int .i64 ((rd_T92 l1 x12_1).f0), .int .i64 ((rd_T92 l1 x12_1).f1), .int .i64 ((rd_T92 l1 x12_1).f2)] 92 (0, 0)) (by (with_reducible repeat (first | refine kn_ ?_ _ | refine kd_ ?_ | refine ka_ ?_ _)); exact BK178.out) k_ hk⟩))
             (case aO => exact (by (with_reducible repeat (first | apply ra_ | apply rn_ | apply rd_)); exact rm_ HO184.out (fun _ hk => ⟨hk.2.1, ⟨hk.1, hk.2.2⟩⟩)))
             (case aS => exact (below_size (by repeat (first | (with_reducible first | exact HB.out | apply ba_ | apply bn_ | apply b1_ | refine bs_ ?_ GE176.out | refine bs_ ?_ GE178.out) | exact HB.out))))
             (case aL => have := LMc8.out; omega)
             intro v189 w62 ho hb hg hat
             rw [← Ny188.out] at ho
             have n0_ := M_ (Kd.R_after (ok := (fun k_ => some k_ ≠ (.slice Ao63 y185.length co63 : Value).ownBlock ∧ k_ ≠ gb178)) (by (with_reducible repeat (first | apply ra_ | apply rn_ | apply rd_)); exact rm_ HO_5.out (fun _ hk => ⟨⟨hk.2.1, hk.2.2⟩, hk.1⟩)) hg hat)
             have n1_ := M_ (blk_grown (g := gb176) (o := .cells #[.slice A0_0 l0_0.length c0_0, .int .i64 a0_1] 59 (0, 0)) (by (with_reducible repeat (first | refine kn_ ?_ _ | refine kd_ ?_ | refine ka_ ?_ _)); exact BK176.out) hg (Kd.R_ne HO184.out BK176.out (by decide)))
             have n2_ := M_ (blk_grown (g := gb178) (o := .cells #[.int .i64 ((rd_T92 l1 x12_1).f0), .int .i64 ((rd_T92 l1 x12_1).f1), .int .i64 ((rd_T92 l1 x12_1).f2)] 92 (0, 0)) (by (with_reducible repeat (first | refine kn_ ?_ _ | refine kd_ ?_ | refine ka_ ?_ _)); exact BK178.out) hg (Kd.R_away HO184.out (fun _ hk => hk.2.2)))
             have n3_ := M_ (Kd.R_after (ok := (fun k_ => some k_ ≠ (.slice Ao53 x5_1.length co53 : Value).ownBlock ∧ k_ ≠ gb178)) (by (with_reducible repeat (first | apply ra_ | apply rn_ | apply rd_)); exact rm_ HO187.out (fun _ hk => ⟨⟨hk.2.1, hk.2.2⟩, hk.1⟩)) hg hat)
             have n4_ := M_ (hb)
             have n5_ := M_ (ho)
             clear HO_5
             clear BK176
             clear BK178
             clear HO187
             clear HB
             clear HO184
             have HO_5 := n0_
             have BK176 := n1_
             have BK178 := n2_
             have HO187 := n3_
             have HB := n4_
             have HO190 := n5_
             clear n0_ n1_ n2_ n3_ n4_ n5_
             clear ho hb hg hat
             refine hK.out _ _ ⟨(blk_cell BK178.out 0).trans rfl, (blk_cell BK178.out 1).trans rfl, (blk_cell BK178.out 2).trans rfl⟩ (fun hHeld => ?_)
             clear hK K
             refine norm_ (a' := ?_) ?_ ?_
             rotate_left
             ·show Act.put _ (some 21) _ = _
              simp only [Act.put, la_, lb_, lc_, i64_w, i32_w]
              rfl
             refine pure_ (i := 6) (N := some 8) (v := ?_) (a' := ?_) #[true, true, true, true, true, true, true] rfl rfl (by kernel_rfl) (fun _ _ _ h => h) (Or.inl ⟨by rfl, ?_⟩) ?_ ?_
             rotate_left
             ·intro w'
              go_simp
              with_reducible rfl
             rotate_left
             ·simp only [Act.put, la_, lb_, lc_, i64_w, i32_w]
              rfl
             refine done_ (by kernel_rfl) ?_
             obtain ⟨Ao64, co64, eo64⟩ := Kd.R_slice HO190.out
             subst eo64
             try go_wp2_with (first | ((with_reducible refine gate_callee (f := 140) rfl ?_); refine goesL_ (some 25) rfl rfl Try.func140 (by kernel_rfl) rfl #[.slice Ao64 y188.length co64, .int .i64 (x5_1.length : Int)] rfl (by (try simp only [List.map_toArray, List.map_cons, List.map_nil]); first | done | rfl | (simp only [List.length_drop, List.length_take]; rfl)) ?_; (with_reducible refine (spec_inLast.calls k1 _ _ y188 (x5_1.length : Int) t191 _ ?side1 ?side2 A9.out).mono ?_); (case side1 => repeat (first | exact (Kd.R_reads' HO190.out).2.2 | (with_reducible refine Kd.C_alloc ?_ _) | (with_reducible refine Kd.C_drewN ?_ _) | (with_reducible refine Kd.C_drew ?_))); (case side2 => exact (Kd.R_reads' HO190.out).2.1); rintro e w' ⟨rfl, ⟨nd, rfl⟩⟩; refine ⟨_, rfl, ?_⟩))
             (try (rw [drewN_self w62]; generalize hq_ : World.drewN w62 _ = w62; have n0_ : Aside0 (Kd.R k92 92 w62 w.heap.size (fun k_ => some k_ ≠ (.slice Ao64 y188.length co64 : Value).ownBlock ∧ some k_ ≠ (.slice Ao53 x5_1.length co53 : Value).ownBlock ∧ k_ ≠ gb178) (.slice Ao63 y185.length co63) y185) := ⟨by rw [← hq_]; exact (by (with_reducible repeat (first | apply ra_ | apply rn_ | apply rd_)); exact rm_ HO187.out (fun _ hk => ⟨hk.2, ⟨hk.1.1, hk.1.2⟩⟩))⟩; have n1_ : Aside0 (Kd.R k92 92 w62 w.heap.size (fun k_ => some k_ ≠ (.slice Ao63 y185.length co63 : Value).ownBlock ∧ some k_ ≠ (.slice Ao53 x5_1.length co53 : Value).ownBlock ∧ k_ ≠ gb178) (.slice Ao64 y188.length co64) y188) := ⟨by rw [← hq_]; exact (by (with_reducible repeat (first | apply ra_ | apply rn_ | apply rd_)); exact rm_ HO190.out (fun _ hk => ⟨hk.2.1, ⟨hk.1, hk.2.2⟩⟩))⟩; have n2_ : Aside0 (Kd.R k92 92 w62 w.heap.size (fun k_ => some k_ ≠ (.slice Ao63 y185.length co63 : Value).ownBlock ∧ some k_ ≠ (.slice Ao64 y188.length co64 : Value).ownBlock ∧ k_ ≠ gb178) (.slice Ao53 x5_1.length co53) x5_1) := ⟨by rw [← hq_]; exact (by (with_reducible repeat (first | apply ra_ | apply rn_ | apply rd_)); exact rm_ HO_5.out (fun _ hk => ⟨hk.1.1, ⟨hk.2, hk.1.2⟩⟩))⟩; have n3_ : Aside0 (w62.heap[gb176]? = some (.cells #[.slice A0_0 l0_0.length c0_0, .int .i64 a0_1] 59 (0, 0))) := ⟨by rw [← hq_]; exact (by (with_reducible repeat (first | refine kn_ ?_ _ | refine kd_ ?_ | refine ka_ ?_ _)); exact BK176.out)⟩; have n4_ : Aside0 (w62.heap[gb178]? = some (.cells #[.int .i64 ((rd_T92 l1 x12_1).f0), .int .i64 ((rd_T92 l1 x12_1).f1), .int .i64 ((rd_T92 l1 x12_1).f2)] 92 (0, 0))) := ⟨by rw [← hq_]; exact (by (with_reducible repeat (first | refine kn_ ?_ _ | refine kd_ ?_ | refine ka_ ?_ _)); exact BK178.out)⟩; have n5_ : Aside0 (Below w.heap.size w w62) := ⟨by rw [← hq_]; exact (by repeat (first | (with_reducible first | exact HB.out | apply ba_ | apply bn_ | apply b1_ | refine bs_ ?_ GE176.out | refine bs_ ?_ GE178.out) | exact HB.out))⟩; clear HO187 HO190 HO_5 BK176 BK178 HB hq_; have HO187 := n0_; have HO190 := n1_; have HO_5 := n2_; have BK176 := n3_; have BK178 := n4_; have HB := n5_; clear n0_ n1_ n2_ n3_ n4_ n5_))
             have n0_ := M_ (rd_ HO_5.out)
             have n1_ := M_ (rd_ HO187.out)
             have n2_ := M_ (rd_ HO190.out)
             have n3_ := M_ (kd_ BK176.out)
             have n4_ := M_ (kd_ BK178.out)
             have n5_ := M_ (b1_ HB.out)
             clear HO_5
             clear HO187
             clear HO190
             clear BK176
             clear BK178
             clear HB
             have HO_5 := n0_
             have HO187 := n1_
             have HO190 := n2_
             have BK176 := n3_
             have BK178 := n4_
             have HB := n5_
             clear n0_ n1_ n2_ n3_ n4_ n5_
             have p193 : 0 ≤ (t191 : Int) := of_decide_eq_true (by first | (with_reducible assumption) | assumption)
             have q193 : t191 < (y188.length : Int) := of_decide_eq_true (by first | (with_reducible assumption) | assumption)
             obtain ⟨ad193, e193, hx193_0, hx193_1, hx193_2⟩ := at_T92 (Kd.R_reads' HO190.out).2.2 t191 p193 q193
             cases e193
             replace p193 := eq_true p193
             replace q193 := eq_true q193
             refine start_ (n := 22) (S := fun w' => w'.cell? ⟨gb176, 0, none⟩ = some (.slice A0_0 l0_0.length c0_0) ∧ w'.cell? ⟨gb176, 1, none⟩ = some (.int .i64 a0_1) ∧ w'.cell? ⟨gb178, 0, none⟩ = some (.int .i64 ((rd_T92 l1 x12_1).f0)) ∧ w'.cell? ⟨gb178, 1, none⟩ = some (.int .i64 ((rd_T92 l1 x12_1).f1)) ∧ w'.cell? ⟨gb178, 2, none⟩ = some (.int .i64 ((rd_T92 l1 x12_1).f2)) ∧ w'.cell? (ad193.add ((t191).toNat * 3)) = some (.int .i64 ((rd_T92 y188 t191).f0)) ∧ w'.cell? ⟨(ad193.add ((t191).toNat * 3)).block, (ad193.add ((t191).toNat * 3)).off + 1, none⟩ = some (.int .i64 ((rd_T92 y188 t191).f1)) ∧ w'.cell? ⟨(ad193.add ((t191).toNat * 3)).block, (ad193.add ((t191).toNat * 3)).off + 2, none⟩ = some (.int .i64 ((rd_T92 y188 t191).f2))) (ds := []) #[false, false, false, false, false, false, false, false, false, false, false, false, false, false, false, false, false, false, false, false, false, false] (by kernel_rfl) rfl rfl ⟨(blk_cell BK176.out 0).trans rfl, (blk_cell BK176.out 1).trans rfl, (blk_cell BK178.out 0).trans rfl, (blk_cell BK178.out 1).trans rfl, (blk_cell BK178.out 2).trans rfl, hx193_0, hx193_1, hx193_2⟩ (fun hHeld => ?_); refine with_tabW spec_inPart.tab7 spec_inPart.bits7 (fun HT_ HW_ => ?_)
             generalize w62.drew = w65 at HO_5 HO187 HO190 BK176 BK178 HB hx193_0 hx193_1 hx193_2 hHeld ⊢
             refine pure_ (i := 1) (N := some 27) (v := ?_) (a' := ?_) #[false, true, false, false, false, false, false, false, false, false, false, false, false, false, false, false, false, false, false, false, false, false] rfl rfl (any_of HT_.out (by kernel_rfl)) (fun _ _ _ h => h) (Or.inl ⟨by rfl, ?_⟩) ?_ ?_
             rotate_left
             ·intro w'
              go_simp
              with_reducible rfl
             rotate_left
             ·simp only [Act.put, la_, lb_, lc_, i64_w, i32_w]
              rfl
             refine take_ (i := 0) (N := some 26) (v := ?_) (a' := ?_) #[true, true, false, false, false, false, false, false, false, false, false, false, false, false, false, false, false, false, false, false, false, false] rfl rfl (take_ofW HT_.out HW_.out (by kernel_rfl)) (fun _ _ _ h => h) (Or.inl ⟨by rfl, ?_⟩) hHeld ?_ ?_
             rotate_left
             ·rintro w' ⟨s0, s1, s2, s3, s4, s5, s6, s7⟩
              go_simp
              with_reducible rfl
             rotate_left
             ·simp only [Act.put, la_, lb_, lc_, i64_w, i32_w]
              rfl
             refine take_ (i := 2) (N := some 28) (v := ?_) (a' := ?_) #[true, true, true, false, false, false, false, false, false, false, false, false, false, false, false, false, false, false, false, false, false, false] rfl rfl (take_ofW HT_.out HW_.out (by kernel_rfl)) (fun _ _ _ h => h) (Or.inl ⟨by rfl, ?_⟩) hHeld ?_ ?_
             rotate_left
             ·rintro w' ⟨s0, s1, s2, s3, s4, s5, s6, s7⟩
              go_simp
              with_reducible rfl
             rotate_left
             ·simp only [Act.put, la_, lb_, lc_, i64_w, i32_w]
              rfl
             refine one_ (i := 3) (N := some 29) #[true, true, true, true, false, false, false, false, false, false, false, false, false, false, false, false, false, false, false, false, false, false] rfl rfl (one_of HT_.out (by kernel_rfl)) (by decide) (fun K hK => ?_)
             refine goes_ Try.func141 (by kernel_rfl) rfl #[.agg #[.slice A0_0 l0_0.length c0_0, .int .i64 a0_1], .int .i64 ((rd_T92 l1 x12_1).f0)] (by rfl) rfl rfl (by (try simp only [List.map_toArray, List.map_cons, List.map_nil]); first | done | rfl | (simp only [List.length_drop, List.length_take]; rfl)) ?_
             with_reducible refine (spec_inTrack.calls k1 _ _ l0_0 a0_1 ((rd_T92 l1 x12_1).f0) t192 _ ?side1 ?side2 A10.out).mono ?_
             (case side1 => repeat (first | exact (Kd.C_below HR0_0.out HB.out) | (with_reducible refine Kd.C_alloc ?_ _) | (with_reducible refine Kd.C_drewN ?_ _) | (with_reducible refine Kd.C_drew ?_)))
             (case side2 => exact HC0_0.out)
             rintro e w66 ⟨rfl, hb⟩
             have HS5_ := (hb.cell (World.block_lt_of_cell? _ _ (hHeld.2.2.2.2.2.1))).trans (hHeld.2.2.2.2.2.1)
             have HS6_ := (hb.cell (World.block_lt_of_cell? _ _ (hHeld.2.2.2.2.2.2.1))).trans (hHeld.2.2.2.2.2.2.1)
             have HS7_ := (hb.cell (World.block_lt_of_cell? _ _ (hHeld.2.2.2.2.2.2.2))).trans (hHeld.2.2.2.2.2.2.2)
             refine ⟨_, rfl, ?_⟩
             have n0_ := M_ (rb_ (by (with_reducible repeat (first | apply ra_ | apply rn_ | apply rd_)); exact HO_5.out) hb)
             have n1_ := M_ (rb_ (by (with_reducible repeat (first | apply ra_ | apply rn_ | apply rd_)); exact HO187.out) hb)
             have n2_ := M_ (rb_ (by (with_reducible repeat (first | apply ra_ | apply rn_ | apply rd_)); exact HO190.out) hb)
             have n3_ := M_ (blk_below (g := gb176) (o := .cells #[.slice A0_0 l0_0.length c0_0, .int .i64 a0_1] 59 (0, 0)) (by (with_reducible repeat (first | refine kn_ ?_ _ | refine kd_ ?_ | refine ka_ ?_ _)); exact BK176.out) hb)
             have n4_ := M_ (blk_below (g := gb178) (o := .cells #[.int .i64 ((rd_T92 l1 x12_1).f0), .int .i64 ((rd_T92 l1 x12_1).f1), .int .i64 ((rd_T92 l1 x12_1).f2)] 92 (0, 0)) (by (with_reducible repeat (first | refine kn_ ?_ _ | refine kd_ ?_ | refine ka_ ?_ _)); exact BK178.out) hb)
             have n5_ := M_ (below_step (by repeat (first | (with_reducible first | exact HB.out | apply ba_ | apply bn_ | apply b1_ | refine bs_ ?_ GE176.out | refine bs_ ?_ GE178.out) | exact HB.out)) hb)
             clear HO_5
             clear HO187
             clear HO190
             clear BK176
             clear BK178
             clear HB
             have HO_5 := n0_
             have HO187 := n1_
             have HO190 := n2_
             have BK176 := n3_
             have BK178 := n4_
             have HB := n5_
             clear n0_ n1_ n2_ n3_ n4_ n5_
             (try clear hb)
             (try clear hb2)
             (try clear hk)
             (try clear hi)
             refine hK.out _ _ ⟨(blk_cell BK176.out 0).trans rfl, (blk_cell BK176.out 1).trans rfl, (blk_cell BK178.out 0).trans rfl, (blk_cell BK178.out 1).trans rfl, (blk_cell BK178.out 2).trans rfl, HS5_, HS6_, HS7_⟩ (fun hHeld => ?_)
             clear hK K
             refine norm_ (a' := ?_) ?_ ?_
             rotate_left
             ·show Act.put _ (some 29) _ = _
              simp only [Act.put, la_, lb_, lc_, i64_w, i32_w]
              rfl
             refine pure_ (i := 4) (N := some 30) (v := ?_) (a' := ?_) #[true, true, true, true, true, false, false, false, false, false, false, false, false, false, false, false, false, false, false, false, false, false] rfl rfl (any_of HT_.out (by kernel_rfl)) (fun _ _ _ h => h) (Or.inl ⟨by rfl, ?_⟩) ?_ ?_
             rotate_left
             ·intro w'
              go_simp
              with_reducible rfl
             rotate_left
             ·simp only [Act.put, la_, lb_, lc_, i64_w, i32_w]
              rfl
             refine pure_ (i := 5) (N := some 31) (v := ?_) (a' := ?_) #[true, true, true, true, true, true, false, false, false, false, false, false, false, false, false, false, false, false, false, false, false, false] rfl rfl (any_of HT_.out (by kernel_rfl)) (fun _ _ _ h => h) (Or.inl ⟨by rfl, ?_⟩) ?_ ?_
             rotate_left
             ·intro w'
              go_simp
              with_reducible rfl
             rotate_left
             ·simp only [Act.put, la_, lb_, lc_, i64_w, i32_w]
              rfl
             refine pure_ (i := 6) (N := some 32) (v := ?_) (a' := ?_) #[true, true, true, true, true, true, true, false, false, false, false, false, false, false, false, false, false, false, false, false, false, false] rfl rfl (any_of HT_.out (by kernel_rfl)) (fun _ _ _ h => h) (Or.inl ⟨by rfl, ?_⟩) ?_ ?_
             rotate_left
             ·intro w'
              go_simp
              with_reducible rfl
             rotate_left
             ·simp only [Act.put, la_, lb_, lc_, i64_w, i32_w]
              rfl
             refine pure_ (i := 7) (N := some 33) (v := ?_) (a' := ?_) #[true, true, true, true, true, true, true, true, false, false, false, false, false, false, false, false, false, false, false, false, false, false] rfl rfl (any_of HT_.out (by kernel_rfl)) (fun _ _ _ h => h) (Or.inl ⟨by rfl, ?_⟩) ?_ ?_
             rotate_left
             ·intro w'
              go_simp
              with_reducible rfl
             rotate_left
             ·simp only [Act.put, la_, lb_, lc_, i64_w, i32_w]
              rfl
             refine pure_ (i := 8) (N := some 34) (v := ?_) (a' := ?_) #[true, true, true, true, true, true, true, true, true, false, false, false, false, false, false, false, false, false, false, false, false, false] rfl rfl (any_of HT_.out (by kernel_rfl)) (fun _ _ _ h => h) (Or.inl ⟨by rfl, ?_⟩) ?_ ?_
             rotate_left
             ·intro w'
              go_simp
              with_reducible rfl
             rotate_left
             ·simp only [Act.put, la_, lb_, lc_, i64_w, i32_w]
              rfl
             refine pure_ (i := 9) (N := some 35) (v := ?_) (a' := ?_) #[true, true, true, true, true, true, true, true, true, true, false, false, false, false, false, false, false, false, false, false, false, false] rfl rfl (any_of HT_.out (by kernel_rfl)) (fun _ _ _ h => h) (Or.inl ⟨by rfl, ?_⟩) ?_ ?_
             rotate_left
             ·intro w'
              go_simp
              with_reducible rfl
             rotate_left
             ·simp only [Act.put, la_, lb_, lc_, i64_w, i32_w]
              rfl
             refine pure_ (i := 11) (N := some 37) (v := ?_) (a' := ?_) #[true, true, true, true, true, true, true, true, true, true, false, true, false, false, false, false, false, false, false, false, false, false] rfl rfl (any_of HT_.out (by kernel_rfl)) (fun _ _ _ h => h) (Or.inl ⟨by rfl, ?_⟩) ?_ ?_
             rotate_left
             ·intro w'
              go_simp
              with_reducible rfl
             rotate_left
             ·simp only [Act.put, la_, lb_, lc_, i64_w, i32_w]
              rfl
             refine pure_ (i := 12) (N := some 38) (v := ?_) (a' := ?_) #[true, true, true, true, true, true, true, true, true, true, false, true, true, false, false, false, false, false, false, false, false, false] rfl rfl (any_of HT_.out (by kernel_rfl)) (fun _ _ _ h => h) (Or.inl ⟨by rfl, ?_⟩) ?_ ?_
             rotate_left
             ·intro w'
              go_simp
              with_reducible rfl
             rotate_left
             ·simp only [Act.put, la_, lb_, lc_, i64_w, i32_w]
              rfl
             refine pure_ (i := 13) (N := some 39) (v := ?_) (a' := ?_) #[true, true, true, true, true, true, true, true, true, true, false, true, true, true, false, false, false, false, false, false, false, false] rfl rfl (any_of HT_.out (by kernel_rfl)) (fun _ _ _ h => h) (Or.inl ⟨by rfl, ?_⟩) ?_ ?_
             rotate_left
             ·intro w'
              go_simp
              with_reducible rfl
             rotate_left
             ·simp only [Act.put, la_, lb_, lc_, i64_w, i32_w]
              rfl
             refine pure_ (i := 14) (N := some 40) (v := ?_) (a' := ?_) #[true, true, true, true, true, true, true, true, true, true, false, true, true, true, true, false, false, false, false, false, false, false] rfl rfl (any_of HT_.out (by kernel_rfl)) (fun _ _ _ h => h) (Or.inl ⟨by rfl, ?_⟩) ?_ ?_
             rotate_left
             ·intro w'
              go_simp
              with_reducible rfl
             rotate_left
             ·simp only [Act.put, la_, lb_, lc_, i64_w, i32_w]
              rfl
             refine pure_ (i := 17) (N := some 43) (v := ?_) (a' := ?_) #[true, true, true, true, true, true, true, true, true, true, false, true, true, true, true, false, false, true, false, false, false, false] rfl rfl (any_of HT_.out (by kernel_rfl)) (fun _ _ _ h => h) (Or.inl ⟨by rfl, ?_⟩) ?_ ?_
             rotate_left
             ·intro w'
              go_simp
              with_reducible rfl
             rotate_left
             ·simp only [Act.put, la_, lb_, lc_, i64_w, i32_w]
              rfl
             refine take_ (i := 10) (N := some 36) (v := ?_) (a' := ?_) #[true, true, true, true, true, true, true, true, true, true, true, true, true, true, true, false, false, true, false, false, false, false] rfl rfl (take_ofW HT_.out HW_.out (by kernel_rfl)) (fun _ _ _ h => h) (Or.inl ⟨by rfl, ?_⟩) hHeld ?_ ?_
             rotate_left
             ·rintro w' ⟨s0, s1, s2, s3, s4, s5, s6, s7⟩
              go_simp
              with_reducible rfl
             rotate_left
             ·simp only [Act.put, la_, lb_, lc_, i64_w, i32_w]
              rfl
             refine take_ (i := 15) (N := some 41) (v := ?_) (a' := ?_) #[true, true, true, true, true, true, true, true, true, true, true, true, true, true, true, true, false, true, false, false, false, false] rfl rfl (take_ofW HT_.out HW_.out (by kernel_rfl)) (fun _ _ _ h => h) (Or.inl ⟨by rfl, ?_⟩) hHeld ?_ ?_
             rotate_left
             ·rintro w' ⟨s0, s1, s2, s3, s4, s5, s6, s7⟩
              go_simp
              with_reducible rfl
             rotate_left
             ·simp only [Act.put, la_, lb_, lc_, i64_w, i32_w]
              rfl
             refine pure_ (i := 16) (N := some 42) (v := ?_) (a' := ?_) #[true, true, true, true, true, true, true, true, true, true, true, true, true, true, true, true, true, true, false, false, false, false] rfl rfl (any_of HT_.out (by kernel_rfl)) (fun _ _ _ h => h) (Or.inl ⟨by rfl, ?_⟩) ?_ ?_
             rotate_left
             ·intro w'
              go_simp
              with_reducible rfl
             rotate_left
             ·simp only [Act.put, la_, lb_, lc_, i64_w, i32_w]
              rfl
             refine take_ (i := 18) (N := some 44) (v := ?_) (a' := ?_) #[true, true, true, true, true, true, true, true, true, true, true, true, true, true, true, true, true, true, true, false, false, false] rfl rfl (take_ofW HT_.out HW_.out (by kernel_rfl)) (fun _ _ _ h => h) (Or.inl ⟨by rfl, ?_⟩) hHeld ?_ ?_
             rotate_left
             ·rintro w' ⟨s0, s1, s2, s3, s4, s5, s6, s7⟩
              go_simp
              with_reducible rfl
             rotate_left
             ·simp only [Act.put, la_, lb_, lc_, i64_w, i32_w]
              rfl
             refine pure_ (i := 19) (N := some 45) (v := ?_) (a' := ?_) #[true, true, true, true, true, true, true, true, true, true, true, true, true, true, true, true, true, true, true, true, false, false] rfl rfl (any_of HT_.out (by kernel_rfl)) (fun _ _ _ h => h) (Or.inl ⟨by rfl, ?_⟩) ?_ ?_
             rotate_left
             ·intro w'
              go_simp
              with_reducible rfl
             rotate_left
             ·simp only [Act.put, la_, lb_, lc_, i64_w, i32_w]
              rfl
             refine pure_ (i := 20) (N := some 46) (v := ?_) (a' := ?_) #[true, true, true, true, true, true, true, true, true, true, true, true, true, true, true, true, true, true, true, true, true, false] rfl rfl (any_of HT_.out (by kernel_rfl)) (fun _ _ _ h => h) (Or.inl ⟨by rfl, ?_⟩) ?_ ?_
             rotate_left
             ·intro w'
              go_simp
              with_reducible rfl
             rotate_left
             ·simp only [Act.put, la_, lb_, lc_, i64_w, i32_w]
              rfl
             refine pure_ (i := 21) (N := some 47) (v := ?_) (a' := ?_) #[true, true, true, true, true, true, true, true, true, true, true, true, true, true, true, true, true, true, true, true, true, true] rfl rfl (any_of HT_.out (by kernel_rfl)) (fun _ _ _ h => h) (Or.inl ⟨by rfl, ?_⟩) ?_ ?_
             rotate_left
             ·intro w'
              go_simp
              with_reducible rfl
             rotate_left
             ·simp only [Act.put, la_, lb_, lc_, i64_w, i32_w]
              rfl
             refine done_ (done_of HT_.out (by kernel_rfl)) ?_
             try go_wp2
             go_roundg k1
             case measure => have := HK1.out; omega
             case rel => exact ⟨(x5_1), (wrap64 (x12_1 + 1)), (by first | rfl | (simp; done) | (simp [*]; done)), H', ⟨by have := HK1.out; omega⟩, ⟨by (with_reducible repeat (first | apply ra_ | apply rn_ | apply rd_)); exact rm_ HO_5.out (fun _ hk => trivial)⟩, ⟨by (with_reducible repeat (first | refine kn_ ?_ _ | refine kd_ ?_ | refine ka_ ?_ _)); exact BK176.out⟩, ⟨by repeat (first | (with_reducible first | exact HB.out | apply ba_ | apply bn_ | apply b1_ | refine bs_ ?_ GE176.out | refine bs_ ?_ GE178.out) | exact HB.out)⟩⟩
           ·rw [if_neg c31] at H
            exact absurd H (by simp)
          ·rw [if_neg c30] at H
           exact absurd H (by simp)
        ·rw [if_neg c11] at H
         have c11b0 : decide (0 ≤ t192) = false := decide_eq_false c11
         clear c11
         have H' := M_ H
         clear H
         have p177 : 0 ≤ (x12_1 : Int) := of_decide_eq_true (by first | (with_reducible assumption) | assumption)
         have q177 : x12_1 < (l1.length : Int) := of_decide_eq_true (by first | (with_reducible assumption) | assumption)
         obtain ⟨ad177, e177, hx177_0, hx177_1, hx177_2⟩ := at_T92 HR1.out x12_1 p177 q177
         cases e177
         replace hx177_0 := (HB.out.cell (World.block_lt_of_cell? w _ hx177_0)).trans hx177_0
         replace hx177_1 := (HB.out.cell (World.block_lt_of_cell? w _ hx177_1)).trans hx177_1
         replace hx177_2 := (HB.out.cell (World.block_lt_of_cell? w _ hx177_2)).trans hx177_2
         replace p177 := eq_true p177
         replace q177 := eq_true q177
         try go_wp2_with (first | ((with_reducible refine gate_dst (N := 7) rfl ?_); refine box_event ?hg (N := 7) ?hd (cs := #[.int .i64 0, .int .i64 0, .int .i64 0]) (t := 92) ?hr ?_; (case hd => rfl); (case hg => rfl); (case hr => first | (go_simp; done) | (go_simp; rfl)); intro gb178 hg w67 hbox hb; have n0_ := M_ (rb_ (Kd.R_elderB (by (with_reducible repeat (first | apply ra_ | apply rn_ | apply rd_)); exact HO_5.out) gb178 (Nat.le_of_eq hg.symm)) hb); have n1_ := M_ (blk_below (g := gb176) (o := .cells #[.slice A0_0 l0_0.length c0_0, .int .i64 a0_1] 59 (0, 0)) (by (with_reducible repeat (first | refine kn_ ?_ _ | refine kd_ ?_ | refine ka_ ?_ _)); exact BK176.out) hb); have n2_ := M_ (below_step (by repeat (first | (with_reducible first | exact HB.out | apply ba_ | apply bn_ | apply b1_ | refine bs_ ?_ GE176.out) | exact HB.out)) hb); have n3_ := M_ (hbox); have n4_ := M_ ((by rw [hg]; exact (below_size (by repeat (first | (with_reducible first | exact HB.out | apply ba_ | apply bn_ | apply b1_ | refine bs_ ?_ GE176.out) | exact HB.out))) : w.heap.size ≤ gb178)); have n5_ := M_ ((by rw [hg]; exact (below_size (by repeat (first | (with_reducible first | exact HB.out | apply ba_ | apply bn_ | apply b1_ | refine bs_ ?_ GE176.out) | exact HB.out))) : w.heap.size ≤ gb178)); have n6_ := M_ ((by rw [hg]; exact Nat.ne_of_lt (blk_lt (g := gb176) (o := .cells #[.slice A0_0 l0_0.length c0_0, .int .i64 a0_1] 59 (0, 0)) (by (with_reducible repeat (first | refine kn_ ?_ _ | refine kd_ ?_ | refine ka_ ?_ _)); exact BK176.out)) : gb176 ≠ gb178)); have n7_ := M_ ((by rw [hg]; exact Nat.ne_of_gt (blk_lt (g := gb176) (o := .cells #[.slice A0_0 l0_0.length c0_0, .int .i64 a0_1] 59 (0, 0)) (by (with_reducible repeat (first | refine kn_ ?_ _ | refine kd_ ?_ | refine ka_ ?_ _)); exact BK176.out)) : gb178 ≠ gb176)); clear HO_5; clear BK176; clear HB; have HO_5 := n0_; have BK176 := n1_; have HB := n2_; have BK178 := n3_; have GW178 := n4_; have GE178 := n5_; have NB176_178 := n6_; have NB178_176 := n7_; clear n0_ n1_ n2_ n3_ n4_ n5_ n6_ n7_; clear hb hbox hg; have hnb68 := NB178_176.out; have hnc68 := NB176_178.out; have hcz69_0 : w67.cell? ⟨gb178, 0, none⟩ = some (.int .i64 0) := (blk_cell BK178.out 0).trans rfl; have hcz69_1 : w67.cell? ⟨gb178, 1, none⟩ = some (.int .i64 0) := (blk_cell BK178.out 1).trans rfl; have hcz69_2 : w67.cell? ⟨gb178, 2, none⟩ = some (.int .i64 0) := (blk_cell BK178.out 2).trans rfl; have hfz69_0 := blk_frozen BK178.out 0; have hfz69_1 := blk_frozen BK178.out 1; have hfz69_2 := blk_frozen BK178.out 2; obtain ⟨Ao70, co70, eo70⟩ := Kd.R_slice HO_5.out; subst eo70))
         have n0_ : Aside0 (Kd.R k92 92 (((w67.setCell ⟨gb178, 0, none⟩ (.int .i64 ((rd_T92 l1 x12_1).f0))).setCell ⟨gb178, 1, none⟩ (.int .i64 ((rd_T92 l1 x12_1).f1))).setCell ⟨gb178, 2, none⟩ (.int .i64 ((rd_T92 l1 x12_1).f2))) w.heap.size (fun k_ => k_ ≠ gb178) (.slice Ao70 x5_1.length co70) x5_1) := ⟨by (with_reducible repeat (first | apply ra_ | apply rn_ | apply rd_)); exact rm_ (Kd.R_far (p := ⟨gb178, 2, none⟩) (Kd.R_far (p := ⟨gb178, 1, none⟩) (Kd.R_far (p := ⟨gb178, 0, none⟩) (rm_ HO_5.out (fun k_ hk => (⟨hk, hk.2⟩ : _ ∧ k_ ≠ gb178))) (fun _ hk => hk.2) (.int .i64 ((rd_T92 l1 x12_1).f0))) (fun _ hk => hk.2) (.int .i64 ((rd_T92 l1 x12_1).f1))) (fun _ hk => hk.2) (.int .i64 ((rd_T92 l1 x12_1).f2))) (fun _ hk => hk.1.2)⟩
         have n1_ : Aside0 ((((w67.setCell ⟨gb178, 0, none⟩ (.int .i64 ((rd_T92 l1 x12_1).f0))).setCell ⟨gb178, 1, none⟩ (.int .i64 ((rd_T92 l1 x12_1).f1))).setCell ⟨gb178, 2, none⟩ (.int .i64 ((rd_T92 l1 x12_1).f2))).heap[gb176]? = some (.cells #[.slice A0_0 l0_0.length c0_0, .int .i64 a0_1] 59 (0, 0))) := ⟨by (with_reducible repeat (first | refine kn_ ?_ _ | refine kd_ ?_ | refine ka_ ?_ _)); refine blk_far ?_ NB176_178.out _; (with_reducible repeat (first | refine kn_ ?_ _ | refine kd_ ?_ | refine ka_ ?_ _)); refine blk_far ?_ NB176_178.out _; (with_reducible repeat (first | refine kn_ ?_ _ | refine kd_ ?_ | refine ka_ ?_ _)); refine blk_far ?_ NB176_178.out _; (with_reducible repeat (first | refine kn_ ?_ _ | refine kd_ ?_ | refine ka_ ?_ _)); exact BK176.out⟩
         have n2_ : Aside0 ((((w67.setCell ⟨gb178, 0, none⟩ (.int .i64 ((rd_T92 l1 x12_1).f0))).setCell ⟨gb178, 1, none⟩ (.int .i64 ((rd_T92 l1 x12_1).f1))).setCell ⟨gb178, 2, none⟩ (.int .i64 ((rd_T92 l1 x12_1).f2))).heap[gb178]? = some (.cells #[.int .i64 ((rd_T92 l1 x12_1).f0), .int .i64 ((rd_T92 l1 x12_1).f1), .int .i64 ((rd_T92 l1 x12_1).f2)] 92 (0, 0))) := ⟨by (with_reducible repeat (first | refine kn_ ?_ _ | refine kd_ ?_ | refine ka_ ?_ _)); refine blk_put (cs := #[.int .i64 ((rd_T92 l1 x12_1).f0), .int .i64 ((rd_T92 l1 x12_1).f1), .int .i64 0]) ?_ 2 _ rfl; (with_reducible repeat (first | refine kn_ ?_ _ | refine kd_ ?_ | refine ka_ ?_ _)); refine blk_put (cs := #[.int .i64 ((rd_T92 l1 x12_1).f0), .int .i64 0, .int .i64 0]) ?_ 1 _ rfl; (with_reducible repeat (first | refine kn_ ?_ _ | refine kd_ ?_ | refine ka_ ?_ _)); refine blk_put (cs := #[.int .i64 0, .int .i64 0, .int .i64 0]) ?_ 0 _ rfl; (with_reducible repeat (first | refine kn_ ?_ _ | refine kd_ ?_ | refine ka_ ?_ _)); exact BK178.out⟩
         have n3_ : Aside0 (Below w.heap.size w (((w67.setCell ⟨gb178, 0, none⟩ (.int .i64 ((rd_T92 l1 x12_1).f0))).setCell ⟨gb178, 1, none⟩ (.int .i64 ((rd_T92 l1 x12_1).f1))).setCell ⟨gb178, 2, none⟩ (.int .i64 ((rd_T92 l1 x12_1).f2)))) := ⟨by repeat (first | (with_reducible first | exact HB.out | apply ba_ | apply bn_ | apply b1_ | refine bs_ ?_ GE176.out | refine bs_ ?_ GE178.out) | exact HB.out)⟩
         (try clear HO_5)
         (try clear BK176)
         (try clear BK178)
         (try clear HB)
         generalize (((w67.setCell ⟨gb178, 0, none⟩ (.int .i64 ((rd_T92 l1 x12_1).f0))).setCell ⟨gb178, 1, none⟩ (.int .i64 ((rd_T92 l1 x12_1).f1))).setCell ⟨gb178, 2, none⟩ (.int .i64 ((rd_T92 l1 x12_1).f2))) = w71 at n0_ n1_ n2_ n3_ ⊢
         have HO_5 := n0_
         have BK176 := n1_
         have BK178 := n2_
         have HB := n3_
         clear n0_ n1_ n2_ n3_
         have n0_ := M_ (rd_ HO_5.out)
         have n1_ := M_ (kd_ BK176.out)
         have n2_ := M_ (kd_ BK178.out)
         have n3_ := M_ (b1_ HB.out)
         clear HO_5
         clear BK176
         clear BK178
         clear HB
         have HO_5 := n0_
         have BK176 := n1_
         have BK178 := n2_
         have HB := n3_
         clear n0_ n1_ n2_ n3_
         refine start_ (n := 7) (S := fun w' => w'.cell? ⟨gb178, 0, none⟩ = some (.int .i64 ((rd_T92 l1 x12_1).f0)) ∧ w'.cell? ⟨gb178, 1, none⟩ = some (.int .i64 ((rd_T92 l1 x12_1).f1)) ∧ w'.cell? ⟨gb178, 2, none⟩ = some (.int .i64 ((rd_T92 l1 x12_1).f2))) (ds := []) #[false, false, false, false, false, false, false] (by kernel_rfl) rfl rfl ⟨(blk_cell BK178.out 0).trans rfl, (blk_cell BK178.out 1).trans rfl, (blk_cell BK178.out 2).trans rfl⟩ (fun hHeld => ?_)
         generalize w71.drew = w72 at HO_5 BK176 BK178 HB hHeld ⊢
         refine pure_ (i := 1) (N := some 17) (v := ?_) (a' := ?_) #[false, true, false, false, false, false, false] rfl rfl (by kernel_rfl) (fun _ _ _ h => h) (Or.inl ⟨by rfl, ?_⟩) ?_ ?_
         rotate_left
         ·intro w'
          go_simp
          with_reducible rfl
         rotate_left
         ·simp only [Act.put, la_, lb_, lc_, i64_w, i32_w]
          rfl
         refine take_ (i := 3) (N := some 19) (v := ?_) (a' := ?_) #[false, true, false, true, false, false, false] rfl rfl (by kernel_rfl) (fun _ _ _ h => h) (Or.inl ⟨by rfl, ?_⟩) hHeld ?_ ?_
         rotate_left
         ·rintro w' ⟨s0, s1, s2⟩
          go_simp
          with_reducible rfl
         rotate_left
         ·simp only [Act.put, la_, lb_, lc_, i64_w, i32_w]
          rfl
         refine join_ (σ := Value × Value × Value) 2 #[true, true, true, true, true, false, false] (fun s_ => [(16, s_.1), (18, s_.2.1), (20, s_.2.2)]) (fun s_ w' => (w'.cell? ⟨gb178, 0, none⟩ = some (.int .i64 ((rd_T92 l1 x12_1).f0)) ∧ w'.cell? ⟨gb178, 1, none⟩ = some (.int .i64 ((rd_T92 l1 x12_1).f1)) ∧ w'.cell? ⟨gb178, 2, none⟩ = some (.int .i64 ((rd_T92 l1 x12_1).f2))) ∧ (Kd.R k92 92 w' w.heap.size (fun k_ => some k_ ≠ (s_.2.2 : Value).ownBlock ∧ some k_ ≠ (.slice Ao70 x5_1.length co70 : Value).ownBlock ∧ k_ ≠ gb178) s_.2.1 y182) ∧ (Kd.R k92 92 w' w.heap.size (fun k_ => some k_ ≠ (s_.2.1 : Value).ownBlock ∧ some k_ ≠ (.slice Ao70 x5_1.length co70 : Value).ownBlock ∧ k_ ≠ gb178) s_.2.2 y185) ∧ (Kd.R k92 92 w' w.heap.size (fun k_ => some k_ ≠ (s_.2.1 : Value).ownBlock ∧ some k_ ≠ (s_.2.2 : Value).ownBlock ∧ k_ ≠ gb178) (.slice Ao70 x5_1.length co70) x5_1) ∧ (w'.heap[gb176]? = some (.cells #[.slice A0_0 l0_0.length c0_0, .int .i64 a0_1] 59 (0, 0))) ∧ (w'.heap[gb178]? = some (.cells #[.int .i64 ((rd_T92 l1 x12_1).f0), .int .i64 ((rd_T92 l1 x12_1).f1), .int .i64 ((rd_T92 l1 x12_1).f2)] 92 (0, 0))) ∧ (Below w.heap.size w w')) ?_ ?_
         rotate_left
         ·intro hCont
          refine two_ (i := 0) (j := 4) (Ni := some 16) (Nj := some 20) #[true, true, false, true, false, false, false] #[false, true, false, true, true, false, false] rfl rfl rfl rfl (by kernel_rfl) (by decide) (by decide) (fun K hK => ?_) (fun K hK => ?_)
          ·skip
           refine Kd.R_lit_step k92 _ 92 ?hg (N := 16) ?hd (xs := ([] : List (S92))) (inner := []) (ok := fun _ => True) (okp := fun _ => True) ?hr ?hp (fun _ hk => hk) trivial (Below.refl _ _) (Nat.le_refl _) (by simp) ?_; (case hd => rfl); (case hg => rfl); (case hr => first | (go_simp; done) | (go_simp; rfl)); (case hp => exact (Reps.none _ _))
           intro v180 w73 ho74 hb hg_ hnew_
           clear hg_ hnew_
           (first | rw [← Ny179.out] at ho74 | (simp only [Int.reduceToNat] at ho74; rw [← Ny179.out] at ho74))
           have n0_ := M_ (Kd.R_elder' (by (with_reducible repeat (first | apply ra_ | apply rn_ | apply rd_)); exact HO_5.out) (Kd.R_base ho74) hb)
           have n1_ := M_ (Kd.R_lower (Kd.R_newB (Kd.R_new' ho74 (Kd.R_lt (by (with_reducible repeat (first | apply ra_ | apply rn_ | apply rd_)); exact HO_5.out))) (g := gb178) (o := .cells #[.int .i64 ((rd_T92 l1 x12_1).f0), .int .i64 ((rd_T92 l1 x12_1).f1), .int .i64 ((rd_T92 l1 x12_1).f2)] 92 (0, 0)) (by (with_reducible repeat (first | refine kn_ ?_ _ | refine kd_ ?_ | refine ka_ ?_ _)); exact BK178.out)) (below_size (by repeat (first | (with_reducible first | exact HB.out | apply ba_ | apply bn_ | apply b1_ | refine bs_ ?_ GE176.out | refine bs_ ?_ GE178.out) | exact HB.out))))
           have n2_ := M_ (blk_below (g := gb176) (o := .cells #[.slice A0_0 l0_0.length c0_0, .int .i64 a0_1] 59 (0, 0)) (by (with_reducible repeat (first | refine kn_ ?_ _ | refine kd_ ?_ | refine ka_ ?_ _)); exact BK176.out) hb)
           have n3_ := M_ (blk_below (g := gb178) (o := .cells #[.int .i64 ((rd_T92 l1 x12_1).f0), .int .i64 ((rd_T92 l1 x12_1).f1), .int .i64 ((rd_T92 l1 x12_1).f2)] 92 (0, 0)) (by (with_reducible repeat (first | refine kn_ ?_ _ | refine kd_ ?_ | refine ka_ ?_ _)); exact BK178.out) hb)
           have n4_ := M_ (below_step (by repeat (first | (with_reducible first | exact HB.out | apply ba_ | apply bn_ | apply b1_ | refine bs_ ?_ GE176.out | refine bs_ ?_ GE178.out) | exact HB.out)) hb)
           clear HO_5
           clear BK176
           clear BK178
           clear HB
           have HO_5 := n0_
           have HO181 := n1_
           have BK176 := n2_
           have BK178 := n3_
           have HB := n4_
           clear n0_ n1_ n2_ n3_ n4_
           clear hb ho74
           refine hK.out _ _ ⟨(blk_cell BK178.out 0).trans rfl, (blk_cell BK178.out 1).trans rfl, (blk_cell BK178.out 2).trans rfl⟩ (fun hHeld => ?_)
           clear hK K
           refine norm_ (a' := ?_) ?_ ?_
           rotate_left
           ·show Act.put _ (some 16) _ = _
            simp only [Act.put, la_, lb_, lc_, i64_w, i32_w]
            rfl
           refine two_ (i := 2) (j := 4) (Ni := some 18) (Nj := some 20) #[true, true, true, true, false, false, false] #[true, true, false, true, true, false, false] rfl rfl rfl rfl (by kernel_rfl) (by decide) (by decide) (fun K hK => ?_) (fun K hK => ?_)
           ·skip
            refine Kd.R_append_rows_step k92 (w0 := w) w.heap.size (by rfl) (.tmp 16) (.tmp 17) 24 92 (.agg #[(.int .i64 0), (.int .i64 0), (.int .i64 0)]) 24 rfl Try.underlying24 info92 rfl (by decide) (by omega) v180 y179 x5_1 _ _ _ (fun k_ => some k_ ≠ (.slice Ao70 x5_1.length co70 : Value).ownBlock ∧ k_ ≠ gb178) (fun _ => False) rfl rfl ?aO ?aR (fun _ _ h => h) (fun _ h => h.elim) ?aF ?aB ?aS ?aL ?_
            (case aR => repeat (first | exact (Kd.R_reads' HO_5.out).2.2 | (with_reducible refine Kd.C_alloc ?_ _) | (with_reducible refine Kd.C_drewN ?_ _) | (with_reducible refine Kd.C_drew ?_)))
            (case aB => exact (by repeat (first | (with_reducible first | exact HB.out | apply ba_ | apply bn_ | apply b1_ | refine bs_ ?_ GE176.out | refine bs_ ?_ GE178.out) | exact HB.out)))
            (case aF => exact (fun k_ hk => ⟨Kd.fresh' (Kd.R_lt (by (with_reducible repeat (first | apply ra_ | apply rn_ | apply rd_)); exact HO_5.out)) k_ hk, Kd.freshB (g := gb178) (o := .cells #[.int .i64 ((rd_T92 l1 x12_1).f0), .int .i64 ((rd_T92 l1 x12_1).f1), .int .i64 ((rd_T92 l1 x12_1).f2)] 92 (0, 0)) (by (with_reducible repeat (first | refine kn_ ?_ _ | refine kd_ ?_ | refine ka_ ?_ _)); exact BK178.out) k_ hk⟩))
            (case aO => exact (by (with_reducible repeat (first | apply ra_ | apply rn_ | apply rd_)); first | exact rm_ HO181.out (fun _ hk => ⟨hk.1.2, hk.2⟩) | exact rm_ HO181.out (fun _ hk => by refine ⟨?_, ?_⟩ <;> (first | exact hk.2 | exact hk.2.1 | exact hk.2.2 | exact hk.1.2 | exact hk.1.2.1 | exact hk.1.2.2 | exact hk.1.1.2 | exact hk.1.1.2.1 | exact hk.1.1.2.2 | exact hk.1.1.1.2 | exact hk.1.1.1.2.1 | exact hk.1.1.1.2.2 | exact hk.1.1.1.1.2 | exact hk.1.1.1.1.2.1 | exact hk.1.1.1.1.2.2 | exact hk | exact hk.1 | exact hk.1.1 | exact hk.1.1.1 | exact hk.1.1.1.1 | exact hk.1.1.1.1.1))))
            (case aS => exact (below_size (by repeat (first | (with_reducible first | exact HB.out | apply ba_ | apply bn_ | apply b1_ | refine bs_ ?_ GE176.out | refine bs_ ?_ GE178.out) | exact HB.out))))
            (case aL => have := LMc7.out; omega)
            intro v183 w75 ho hb hg hat
            rw [← Ny182.out] at ho
            have n0_ := M_ (Kd.R_after (ok := (fun k_ => k_ ≠ gb178)) (by (with_reducible repeat (first | apply ra_ | apply rn_ | apply rd_)); exact HO_5.out) hg hat)
            have n1_ := M_ (blk_grown (g := gb176) (o := .cells #[.slice A0_0 l0_0.length c0_0, .int .i64 a0_1] 59 (0, 0)) (by (with_reducible repeat (first | refine kn_ ?_ _ | refine kd_ ?_ | refine ka_ ?_ _)); exact BK176.out) hg (Kd.R_ne HO181.out BK176.out (by decide)))
            have n2_ := M_ (blk_grown (g := gb178) (o := .cells #[.int .i64 ((rd_T92 l1 x12_1).f0), .int .i64 ((rd_T92 l1 x12_1).f1), .int .i64 ((rd_T92 l1 x12_1).f2)] 92 (0, 0)) (by (with_reducible repeat (first | refine kn_ ?_ _ | refine kd_ ?_ | refine ka_ ?_ _)); exact BK178.out) hg (Kd.R_away HO181.out (fun _ hk => hk.2)))
            have n3_ := M_ (hb)
            have n4_ := M_ (ho)
            clear HO_5
            clear BK176
            clear BK178
            clear HB
            clear HO181
            have HO_5 := n0_
            have BK176 := n1_
            have BK178 := n2_
            have HB := n3_
            have HO184 := n4_
            clear n0_ n1_ n2_ n3_ n4_
            clear ho hb hg hat
            refine hK.out _ _ ⟨(blk_cell BK178.out 0).trans rfl, (blk_cell BK178.out 1).trans rfl, (blk_cell BK178.out 2).trans rfl⟩ (fun hHeld => ?_)
            clear hK K
            refine norm_ (a' := ?_) ?_ ?_
            rotate_left
            ·show Act.put _ (some 18) _ = _
             simp only [Act.put, la_, lb_, lc_, i64_w, i32_w]
             rfl
            refine one_ (i := 4) (N := some 20) #[true, true, true, true, true, false, false] rfl rfl (by kernel_rfl) (by decide) (fun K hK => ?_)
            refine Kd.R_lit_step k92 _ 92 ?hg (N := 20) ?hd (xs := ([(⟨(rd_T92 l1 x12_1).f0, (rd_T92 l1 x12_1).f1, (rd_T92 l1 x12_1).f2⟩ : S92)] : List (S92))) (inner := [.int .i64 ((rd_T92 l1 x12_1).f0), .int .i64 ((rd_T92 l1 x12_1).f1), .int .i64 ((rd_T92 l1 x12_1).f2)]) (ok := fun _ => True) (okp := fun _ => True) ?hr ?hp (fun _ hk => hk) trivial (Below.refl _ _) (Nat.le_refl _) (by simp) ?_; (case hd => rfl); (case hg => rfl); (case hr => first | (go_simp; done) | (go_simp; rfl)); (case hp => exact (Reps.c3 (show Kd.M k92 _ _ _ (⟨(rd_T92 l1 x12_1).f0, (rd_T92 l1 x12_1).f1, (rd_T92 l1 x12_1).f2⟩ : S92) [.int .i64 ((rd_T92 l1 x12_1).f0), .int .i64 ((rd_T92 l1 x12_1).f1), .int .i64 ((rd_T92 l1 x12_1).f2)] from (k92_mkM _ _ _ (⟨(rd_T92 l1 x12_1).f0, (rd_T92 l1 x12_1).f1, (rd_T92 l1 x12_1).f2⟩ : S92) )) (Reps.none _ _)))
            intro v186 w76 ho77 hb hg_ hnew_
            clear hg_ hnew_
            (first | rw [← Ny185.out] at ho77 | (simp only [Int.reduceToNat] at ho77; rw [← Ny185.out] at ho77))
            have n0_ := M_ (Kd.R_elder' (by (with_reducible repeat (first | apply ra_ | apply rn_ | apply rd_)); exact HO_5.out) (Kd.R_base ho77) hb)
            have n1_ := M_ (Kd.R_elder' (by (with_reducible repeat (first | apply ra_ | apply rn_ | apply rd_)); exact HO184.out) (Kd.R_base ho77) hb)
            have n2_ := M_ (Kd.R_lower (Kd.R_newB (Kd.R_new' (Kd.R_new' ho77 (Kd.R_lt (by (with_reducible repeat (first | apply ra_ | apply rn_ | apply rd_)); exact HO_5.out))) (Kd.R_lt (by (with_reducible repeat (first | apply ra_ | apply rn_ | apply rd_)); exact HO184.out))) (g := gb178) (o := .cells #[.int .i64 ((rd_T92 l1 x12_1).f0), .int .i64 ((rd_T92 l1 x12_1).f1), .int .i64 ((rd_T92 l1 x12_1).f2)] 92 (0, 0)) (by (with_reducible repeat (first | refine kn_ ?_ _ | refine kd_ ?_ | refine ka_ ?_ _)); exact BK178.out)) (below_size (by repeat (first | (with_reducible first | exact HB.out | apply ba_ | apply bn_ | apply b1_ | refine bs_ ?_ GE176.out | refine bs_ ?_ GE178.out) | exact HB.out))))
            have n3_ := M_ (blk_below (g := gb176) (o := .cells #[.slice A0_0 l0_0.length c0_0, .int .i64 a0_1] 59 (0, 0)) (by (with_reducible repeat (first | refine kn_ ?_ _ | refine kd_ ?_ | refine ka_ ?_ _)); exact BK176.out) hb)
            have n4_ := M_ (blk_below (g := gb178) (o := .cells #[.int .i64 ((rd_T92 l1 x12_1).f0), .int .i64 ((rd_T92 l1 x12_1).f1), .int .i64 ((rd_T92 l1 x12_1).f2)] 92 (0, 0)) (by (with_reducible repeat (first | refine kn_ ?_ _ | refine kd_ ?_ | refine ka_ ?_ _)); exact BK178.out) hb)
            have n5_ := M_ (below_step (by repeat (first | (with_reducible first | exact HB.out | apply ba_ | apply bn_ | apply b1_ | refine bs_ ?_ GE176.out | refine bs_ ?_ GE178.out) | exact HB.out)) hb)
            clear HO_5
            clear HO184
            clear BK176
            clear BK178
            clear HB
            have HO_5 := n0_
            have HO184 := n1_
            have HO187 := n2_
            have BK176 := n3_
            have BK178 := n4_
            have HB := n5_
            clear n0_ n1_ n2_ n3_ n4_ n5_
            clear hb ho77
            refine hK.out _ _ ⟨(blk_cell BK178.out 0).trans rfl, (blk_cell BK178.out 1).trans rfl, (blk_cell BK178.out 2).trans rfl⟩ (fun hHeld => ?_)
            clear hK K
            refine norm_ (a' := ?_) ?_ ?_
            rotate_left
            ·show Act.put _ (some 20) _ = _
             simp only [Act.put, la_, lb_, lc_, i64_w, i32_w]
             rfl
            exact norm_ (by simp only [putAll, Act.put, la_, lb_, lc_]) (hCont (v180, v183, v186) _ ⟨hHeld, (by (with_reducible repeat (first | apply ra_ | apply rn_ | apply rd_)); exact rm_ HO184.out (fun _ hk => ⟨hk.2, ⟨hk.1.1, hk.1.2⟩⟩)), (by (with_reducible repeat (first | apply ra_ | apply rn_ | apply rd_)); exact rm_ HO187.out (fun _ hk => ⟨hk.1.2, ⟨hk.1.1.2, hk.2⟩⟩)), (by (with_reducible repeat (first | apply ra_ | apply rn_ | apply rd_)); exact rm_ HO_5.out (fun _ hk => ⟨hk.1.2, ⟨hk.2, hk.1.1⟩⟩)), (by (with_reducible repeat (first | refine kn_ ?_ _ | refine kd_ ?_ | refine ka_ ?_ _)); exact BK176.out), (by (with_reducible repeat (first | refine kn_ ?_ _ | refine kd_ ?_ | refine ka_ ?_ _)); exact BK178.out), (by repeat (first | (with_reducible first | exact HB.out | apply ba_ | apply bn_ | apply b1_ | refine bs_ ?_ GE176.out | refine bs_ ?_ GE178.out) | exact HB.out))⟩)
           ·skip
            refine Kd.R_lit_step k92 _ 92 ?hg (N := 20) ?hd (xs := ([(⟨(rd_T92 l1 x12_1).f0, (rd_T92 l1 x12_1).f1, (rd_T92 l1 x12_1).f2⟩ : S92)] : List (S92))) (inner := [.int .i64 ((rd_T92 l1 x12_1).f0), .int .i64 ((rd_T92 l1 x12_1).f1), .int .i64 ((rd_T92 l1 x12_1).f2)]) (ok := fun _ => True) (okp := fun _ => True) ?hr ?hp (fun _ hk => hk) trivial (Below.refl _ _) (Nat.le_refl _) (by simp) ?_; (case hd => rfl); (case hg => rfl); (case hr => first | (go_simp; done) | (go_simp; rfl)); (case hp => exact (Reps.c3 (show Kd.M k92 _ _ _ (⟨(rd_T92 l1 x12_1).f0, (rd_T92 l1 x12_1).f1, (rd_T92 l1 x12_1).f2⟩ : S92) [.int .i64 ((rd_T92 l1 x12_1).f0), .int .i64 ((rd_T92 l1 x12_1).f1), .int .i64 ((rd_T92 l1 x12_1).f2)] from (k92_mkM _ _ _ (⟨(rd_T92 l1 x12_1).f0, (rd_T92 l1 x12_1).f1, (rd_T92 l1 x12_1).f2⟩ : S92) )) (Reps.none _ _)))
            intro v186 w75 ho76 hb hg_ hnew_
            clear hg_ hnew_
            (first | rw [← Ny185.out] at ho76 | (simp only [Int.reduceToNat] at ho76; rw [← Ny185.out] at ho76))
            have n0_ := M_ (Kd.R_elder' (by (with_reducible repeat (first | apply ra_ | apply rn_ | apply rd_)); exact HO_5.out) (Kd.R_base ho76) hb)
            have n1_ := M_ (Kd.R_elder' (by (with_reducible repeat (first | apply ra_ | apply rn_ | apply rd_)); exact HO181.out) (Kd.R_base ho76) hb)
            have n2_ := M_ (Kd.R_lower (Kd.R_newB (Kd.R_new' (Kd.R_new' ho76 (Kd.R_lt (by (with_reducible repeat (first | apply ra_ | apply rn_ | apply rd_)); exact HO_5.out))) (Kd.R_lt (by (with_reducible repeat (first | apply ra_ | apply rn_ | apply rd_)); exact HO181.out))) (g := gb178) (o := .cells #[.int .i64 ((rd_T92 l1 x12_1).f0), .int .i64 ((rd_T92 l1 x12_1).f1), .int .i64 ((rd_T92 l1 x12_1).f2)] 92 (0, 0)) (by (with_reducible repeat (first | refine kn_ ?_ _ | refine kd_ ?_ | refine ka_ ?_ _)); exact BK178.out)) (below_size (by repeat (first | (with_reducible first | exact HB.out | apply ba_ | apply bn_ | apply b1_ | refine bs_ ?_ GE176.out | refine bs_ ?_ GE178.out) | exact HB.out))))
            have n3_ := M_ (blk_below (g := gb176) (o := .cells #[.slice A0_0 l0_0.length c0_0, .int .i64 a0_1] 59 (0, 0)) (by (with_reducible repeat (first | refine kn_ ?_ _ | refine kd_ ?_ | refine ka_ ?_ _)); exact BK176.out) hb)
            have n4_ := M_ (blk_below (g := gb178) (o := .cells #[.int .i64 ((rd_T92 l1 x12_1).f0), .int .i64 ((rd_T92 l1 x12_1).f1), .int .i64 ((rd_T92 l1 x12_1).f2)] 92 (0, 0)) (by (with_reducible repeat (first | refine kn_ ?_ _ | refine kd_ ?_ | refine ka_ ?_ _)); exact BK178.out) hb)
            have n5_ := M_ (below_step (by repeat (first | (with_reducible first | exact HB.out | apply ba_ | apply bn_ | apply b1_ | refine bs_ ?_ GE176.out | refine bs_ ?_ GE178.out) | exact HB.out)) hb)
            clear HO_5
            clear HO181
            clear BK176
            clear BK178
            clear HB
            have HO_5 := n0_
            have HO181 := n1_
            have HO187 := n2_
            have BK176 := n3_
            have BK178 := n4_
            have HB := n5_
            clear n0_ n1_ n2_ n3_ n4_ n5_
            clear hb ho76
            refine hK.out _ _ ⟨(blk_cell BK178.out 0).trans rfl, (blk_cell BK178.out 1).trans rfl, (blk_cell BK178.out 2).trans rfl⟩ (fun hHeld => ?_)
            clear hK K
            refine norm_ (a' := ?_) ?_ ?_
            rotate_left
            ·show Act.put _ (some 20) _ = _
             simp only [Act.put, la_, lb_, lc_, i64_w, i32_w]
             rfl
            refine one_ (i := 2) (N := some 18) #[true, true, true, true, true, false, false] rfl rfl (by kernel_rfl) (by decide) (fun K hK => ?_)
            refine Kd.R_append_rows_step k92 (w0 := w) w.heap.size (by rfl) (.tmp 16) (.tmp 17) 24 92 (.agg #[(.int .i64 0), (.int .i64 0), (.int .i64 0)]) 24 rfl Try.underlying24 info92 rfl (by decide) (by omega) v180 y179 x5_1 _ _ _ (fun k_ => some k_ ≠ (.slice Ao70 x5_1.length co70 : Value).ownBlock ∧ some k_ ≠ (v186 : Value).ownBlock ∧ k_ ≠ gb178) (fun _ => False) rfl rfl ?aO ?aR (fun _ _ h => h) (fun _ h => h.elim) ?aF ?aB ?aS ?aL ?_
            (case aR => repeat (first | exact (Kd.R_reads' HO_5.out).2.2 | (with_reducible refine Kd.C_alloc ?_ _) | (with_reducible refine Kd.C_drewN ?_ _) | (with_reducible refine Kd.C_drew ?_)))
            (case aB => exact (by repeat (first | (with_reducible first | exact HB.out | apply ba_ | apply bn_ | apply b1_ | refine bs_ ?_ GE176.out | refine bs_ ?_ GE178.out) | exact HB.out)))
            (case aF => exact (fun k_ hk => ⟨Kd.fresh' (Kd.R_lt (by (with_reducible repeat (first | apply ra_ | apply rn_ | apply rd_)); exact HO_5.out)) k_ hk, Kd.fresh' (Kd.R_lt (by (with_reducible repeat (first | apply ra_ | apply rn_ | apply rd_)); exact HO187.out)) k_ hk, Kd.freshB (g := gb178) (o := .cells #[.int .i64 ((rd_T92 l1 x12_1).f0), .int .i64 ((rd_T92 l1 x12_1).f1), .int .i64 ((rd_T92 l1 x12_1).f2)] 92 (0, 0)) (by (with_reducible repeat (first | refine kn_ ?_ _ | refine kd_ ?_ | refine ka_ ?_ _)); exact BK178.out) k_ hk⟩))
            (case aO => exact (by (with_reducible repeat (first | apply ra_ | apply rn_ | apply rd_)); exact rm_ HO181.out (fun _ hk => ⟨hk.1.1.2, ⟨hk.2, hk.1.2⟩⟩)))
            (case aS => exact (below_size (by repeat (first | (with_reducible first | exact HB.out | apply ba_ | apply bn_ | apply b1_ | refine bs_ ?_ GE176.out | refine bs_ ?_ GE178.out) | exact HB.out))))
            (case aL => have := LMc7.out; omega)
            intro v183 w77 ho hb hg hat
            rw [← Ny182.out] at ho
            have n0_ := M_ (Kd.R_after (ok := (fun k_ => some k_ ≠ (v186 : Value).ownBlock ∧ k_ ≠ gb178)) (by (with_reducible repeat (first | apply ra_ | apply rn_ | apply rd_)); exact rm_ HO_5.out (fun _ hk => ⟨⟨hk.2, hk.1.1⟩, hk.1.2⟩)) hg hat)
            have n1_ := M_ (blk_grown (g := gb176) (o := .cells #[.slice A0_0 l0_0.length c0_0, .int .i64 a0_1] 59 (0, 0)) (by (with_reducible repeat (first | refine kn_ ?_ _ | refine kd_ ?_ | refine ka_ ?_ _)); exact BK176.out) hg (Kd.R_ne HO181.out BK176.out (by decide)))
            have n2_ := M_ (blk_grown (g := gb178) (o := .cells #[.int .i64 ((rd_T92 l1 x12_1).f0), .int .i64 ((rd_T92 l1 x12_1).f1), .int .i64 ((rd_T92 l1 x12_1).f2)] 92 (0, 0)) (by (with_reducible repeat (first | refine kn_ ?_ _ | refine kd_ ?_ | refine ka_ ?_ _)); exact BK178.out) hg (Kd.R_away HO181.out (fun _ hk => hk.1.2)))
            have n3_ := M_ (Kd.R_after (ok := (fun k_ => some k_ ≠ (.slice Ao70 x5_1.length co70 : Value).ownBlock ∧ k_ ≠ gb178)) (by (with_reducible repeat (first | apply ra_ | apply rn_ | apply rd_)); exact rm_ HO187.out (fun _ hk => ⟨⟨hk.1.1.2, hk.2⟩, hk.1.2⟩)) hg hat)
            have n4_ := M_ (hb)
            have n5_ := M_ (ho)
            clear HO_5
            clear BK176
            clear BK178
            clear HO187
            clear HB
            clear HO181
            have HO_5 := n0_
            have BK176 := n1_
            have BK178 := n2_
            have HO187 := n3_
            have HB := n4_
            have HO184 := n5_
            clear n0_ n1_ n2_ n3_ n4_ n5_
            clear ho hb hg hat
            refine hK.out _ _ ⟨(blk_cell BK178.out 0).trans rfl, (blk_cell BK178.out 1).trans rfl, (blk_cell BK178.out 2).trans rfl⟩ (fun hHeld => ?_)
            clear hK K
            refine norm_ (a' := ?_) ?_ ?_
            rotate_left
            ·show Act.put _ (some 18) _ = _
             simp only [Act.put, la_, lb_, lc_, i64_w, i32_w]
             rfl
            exact norm_ (by simp only [putAll, Act.put, la_, lb_, lc_]) (hCont (v180, v183, v186) _ ⟨hHeld, (by (with_reducible repeat (first | apply ra_ | apply rn_ | apply rd_)); exact rm_ HO184.out (fun _ hk => ⟨hk.2.1, ⟨hk.1, hk.2.2⟩⟩)), (by (with_reducible repeat (first | apply ra_ | apply rn_ | apply rd_)); exact rm_ HO187.out (fun _ hk => ⟨hk.2, ⟨hk.1.1, hk.1.2⟩⟩)), (by (with_reducible repeat (first | apply ra_ | apply rn_ | apply rd_)); exact rm_ HO_5.out (fun _ hk => ⟨hk.2, ⟨hk.1.1, hk.1.2⟩⟩)), (by (with_reducible repeat (first | refine kn_ ?_ _ | refine kd_ ?_ | refine ka_ ?_ _)); exact BK176.out), (by (with_reducible repeat (first | refine kn_ ?_ _ | refine kd_ ?_ | refine ka_ ?_ _)); exact BK178.out), (by repeat (first | (with_reducible first | exact HB.out | apply ba_ | apply bn_ | apply b1_ | refine bs_ ?_ GE176.out | refine bs_ ?_ GE178.out) | exact HB.out))⟩)
          ·skip
           refine Kd.R_lit_step k92 _ 92 ?hg (N := 20) ?hd (xs := ([(⟨(rd_T92 l1 x12_1).f0, (rd_T92 l1 x12_1).f1, (rd_T92 l1 x12_1).f2⟩ : S92)] : List (S92))) (inner := [.int .i64 ((rd_T92 l1 x12_1).f0), .int .i64 ((rd_T92 l1 x12_1).f1), .int .i64 ((rd_T92 l1 x12_1).f2)]) (ok := fun _ => True) (okp := fun _ => True) ?hr ?hp (fun _ hk => hk) trivial (Below.refl _ _) (Nat.le_refl _) (by simp) ?_; (case hd => rfl); (case hg => rfl); (case hr => first | (go_simp; done) | (go_simp; rfl)); (case hp => exact (Reps.c3 (show Kd.M k92 _ _ _ (⟨(rd_T92 l1 x12_1).f0, (rd_T92 l1 x12_1).f1, (rd_T92 l1 x12_1).f2⟩ : S92) [.int .i64 ((rd_T92 l1 x12_1).f0), .int .i64 ((rd_T92 l1 x12_1).f1), .int .i64 ((rd_T92 l1 x12_1).f2)] from (k92_mkM _ _ _ (⟨(rd_T92 l1 x12_1).f0, (rd_T92 l1 x12_1).f1, (rd_T92 l1 x12_1).f2⟩ : S92) )) (Reps.none _ _)))
           intro v186 w73 ho74 hb hg_ hnew_
           clear hg_ hnew_
           (first | rw [← Ny185.out] at ho74 | (simp only [Int.reduceToNat] at ho74; rw [← Ny185.out] at ho74))
           have n0_ := M_ (Kd.R_elder' (by (with_reducible repeat (first | apply ra_ | apply rn_ | apply rd_)); exact HO_5.out) (Kd.R_base ho74) hb)
           have n1_ := M_ (Kd.R_lower (Kd.R_newB (Kd.R_new' ho74 (Kd.R_lt (by (with_reducible repeat (first | apply ra_ | apply rn_ | apply rd_)); exact HO_5.out))) (g := gb178) (o := .cells #[.int .i64 ((rd_T92 l1 x12_1).f0), .int .i64 ((rd_T92 l1 x12_1).f1), .int .i64 ((rd_T92 l1 x12_1).f2)] 92 (0, 0)) (by (with_reducible repeat (first | refine kn_ ?_ _ | refine kd_ ?_ | refine ka_ ?_ _)); exact BK178.out)) (below_size (by repeat (first | (with_reducible first | exact HB.out | apply ba_ | apply bn_ | apply b1_ | refine bs_ ?_ GE176.out | refine bs_ ?_ GE178.out) | exact HB.out))))
           have n2_ := M_ (blk_below (g := gb176) (o := .cells #[.slice A0_0 l0_0.length c0_0, .int .i64 a0_1] 59 (0, 0)) (by (with_reducible repeat (first | refine kn_ ?_ _ | refine kd_ ?_ | refine ka_ ?_ _)); exact BK176.out) hb)
           have n3_ := M_ (blk_below (g := gb178) (o := .cells #[.int .i64 ((rd_T92 l1 x12_1).f0), .int .i64 ((rd_T92 l1 x12_1).f1), .int .i64 ((rd_T92 l1 x12_1).f2)] 92 (0, 0)) (by (with_reducible repeat (first | refine kn_ ?_ _ | refine kd_ ?_ | refine ka_ ?_ _)); exact BK178.out) hb)
           have n4_ := M_ (below_step (by repeat (first | (with_reducible first | exact HB.out | apply ba_ | apply bn_ | apply b1_ | refine bs_ ?_ GE176.out | refine bs_ ?_ GE178.out) | exact HB.out)) hb)
           clear HO_5
           clear BK176
           clear BK178
           clear HB
           have HO_5 := n0_
           have HO187 := n1_
           have BK176 := n2_
           have BK178 := n3_
           have HB := n4_
           clear n0_ n1_ n2_ n3_ n4_
           clear hb ho74
           refine hK.out _ _ ⟨(blk_cell BK178.out 0).trans rfl, (blk_cell BK178.out 1).trans rfl, (blk_cell BK178.out 2).trans rfl⟩ (fun hHeld => ?_)
           clear hK K
           refine norm_ (a' := ?_) ?_ ?_
           rotate_left
           ·show Act.put _ (some 20) _ = _
            simp only [Act.put, la_, lb_, lc_, i64_w, i32_w]
            rfl
           refine one_ (i := 0) (N := some 16) #[true, true, false, true, true, false, false] rfl rfl (by kernel_rfl) (by decide) (fun K hK => ?_)
           refine Kd.R_lit_step k92 _ 92 ?hg (N := 16) ?hd (xs := ([] : List (S92))) (inner := []) (ok := fun _ => True) (okp := fun _ => True) ?hr ?hp (fun _ hk => hk) trivial (Below.refl _ _) (Nat.le_refl _) (by simp) ?_; (case hd => rfl); (case hg => rfl); (case hr => first | (go_simp; done) | (go_simp; rfl)); (case hp => exact (Reps.none _ _))
           intro v180 w75 ho76 hb hg_ hnew_
           clear hg_ hnew_
           (first | rw [← Ny179.out] at ho76 | (simp only [Int.reduceToNat] at ho76; rw [← Ny179.out] at ho76))
           have n0_ := M_ (Kd.R_elder' (by (with_reducible repeat (first | apply ra_ | apply rn_ | apply rd_)); exact HO_5.out) (Kd.R_base ho76) hb)
           have n1_ := M_ (Kd.R_elder' (by (with_reducible repeat (first | apply ra_ | apply rn_ | apply rd_)); exact HO187.out) (Kd.R_base ho76) hb)
           have n2_ := M_ (Kd.R_lower (Kd.R_newB (Kd.R_new' (Kd.R_new' ho76 (Kd.R_lt (by (with_reducible repeat (first | apply ra_ | apply rn_ | apply rd_)); exact HO_5.out))) (Kd.R_lt (by (with_reducible repeat (first | apply ra_ | apply rn_ | apply rd_)); exact HO187.out))) (g := gb178) (o := .cells #[.int .i64 ((rd_T92 l1 x12_1).f0), .int .i64 ((rd_T92 l1 x12_1).f1), .int .i64 ((rd_T92 l1 x12_1).f2)] 92 (0, 0)) (by (with_reducible repeat (first | refine kn_ ?_ _ | refine kd_ ?_ | refine ka_ ?_ _)); exact BK178.out)) (below_size (by repeat (first | (with_reducible first | exact HB.out | apply ba_ | apply bn_ | apply b1_ | refine bs_ ?_ GE176.out | refine bs_ ?_ GE178.out) | exact HB.out))))
           have n3_ := M_ (blk_below (g := gb176) (o := .cells #[.slice A0_0 l0_0.length c0_0, .int .i64 a0_1] 59 (0, 0)) (by (with_reducible repeat (first | refine kn_ ?_ _ | refine kd_ ?_ | refine ka_ ?_ _)); exact BK176.out) hb)
           have n4_ := M_ (blk_below (g := gb178) (o := .cells #[.int .i64 ((rd_T92 l1 x12_1).f0), .int .i64 ((rd_T92 l1 x12_1).f1), .int .i64 ((rd_T92 l1 x12_1).f2)] 92 (0, 0)) (by (with_reducible repeat (first | refine kn_ ?_ _ | refine kd_ ?_ | refine ka_ ?_ _)); exact BK178.out) hb)
           have n5_ := M_ (below_step (by repeat (first | (with_reducible first | exact HB.out | apply ba_ | apply bn_ | apply b1_ | refine bs_ ?_ GE176.out | refine bs_ ?_ GE178.out) | exact HB.out)) hb)
           clear HO_5
           clear HO187
           clear BK176
           clear BK178
           clear HB
           have HO_5 := n0_
           have HO187 := n1_
           have HO181 := n2_
           have BK176 := n3_
           have BK178 := n4_
           have HB := n5_
           clear n0_ n1_ n2_ n3_ n4_ n5_
           clear hb ho76
           refine hK.out _ _ ⟨(blk_cell BK178.out 0).trans rfl, (blk_cell BK178.out 1).trans rfl, (blk_cell BK178.out 2).trans rfl⟩ (fun hHeld => ?_)
           clear hK K
           refine norm_ (a' := ?_) ?_ ?_
           rotate_left
           ·show Act.put _ (some 16) _ = _
            simp only [Act.put, la_, lb_, lc_, i64_w, i32_w]
            rfl
           refine one_ (i := 2) (N := some 18) #[true, true, true, true, true, false, false] rfl rfl (by kernel_rfl) (by decide) (fun K hK => ?_)
           refine Kd.R_append_rows_step k92 (w0 := w) w.heap.size (by rfl) (.tmp 16) (.tmp 17) 24 92 (.agg #[(.int .i64 0), (.int .i64 0), (.int .i64 0)]) 24 rfl Try.underlying24 info92 rfl (by decide) (by omega) v180 y179 x5_1 _ _ _ (fun k_ => some k_ ≠ (.slice Ao70 x5_1.length co70 : Value).ownBlock ∧ some k_ ≠ (v186 : Value).ownBlock ∧ k_ ≠ gb178) (fun _ => False) rfl rfl ?aO ?aR (fun _ _ h => h) (fun _ h => h.elim) ?aF ?aB ?aS ?aL ?_
           (case aR => repeat (first | exact (Kd.R_reads' HO_5.out).2.2 | (with_reducible refine Kd.C_alloc ?_ _) | (with_reducible refine Kd.C_drewN ?_ _) | (with_reducible refine Kd.C_drew ?_)))
           (case aB => exact (by repeat (first | (with_reducible first | exact HB.out | apply ba_ | apply bn_ | apply b1_ | refine bs_ ?_ GE176.out | refine bs_ ?_ GE178.out) | exact HB.out)))
           (case aF => exact (fun k_ hk => ⟨Kd.fresh' (Kd.R_lt (by (with_reducible repeat (first | apply ra_ | apply rn_ | apply rd_)); exact HO_5.out)) k_ hk, Kd.fresh' (Kd.R_lt (by (with_reducible repeat (first | apply ra_ | apply rn_ | apply rd_)); exact HO187.out)) k_ hk, Kd.freshB (g := gb178) (o := .cells #[.int .i64 ((rd_T92 l1 x12_1).f0), .int .i64 ((rd_T92 l1 x12_1).f1), .int .i64 ((rd_T92 l1 x12_1).f2)] 92 (0, 0)) (by (with_reducible repeat (first | refine kn_ ?_ _ | refine kd_ ?_ | refine ka_ ?_ _)); exact BK178.out) k_ hk⟩))
           (case aO => exact (by (with_reducible repeat (first | apply ra_ | apply rn_ | apply rd_)); exact rm_ HO181.out (fun _ hk => ⟨hk.1.1.2, ⟨hk.1.2, hk.2⟩⟩)))
           (case aS => exact (below_size (by repeat (first | (with_reducible first | exact HB.out | apply ba_ | apply bn_ | apply b1_ | refine bs_ ?_ GE176.out | refine bs_ ?_ GE178.out) | exact HB.out))))
           (case aL => have := LMc7.out; omega)
           intro v183 w77 ho hb hg hat
           rw [← Ny182.out] at ho
           have n0_ := M_ (Kd.R_after (ok := (fun k_ => some k_ ≠ (v186 : Value).ownBlock ∧ k_ ≠ gb178)) (by (with_reducible repeat (first | apply ra_ | apply rn_ | apply rd_)); exact rm_ HO_5.out (fun _ hk => ⟨⟨hk.1.2, hk.1.1⟩, hk.2⟩)) hg hat)
           have n1_ := M_ (blk_grown (g := gb176) (o := .cells #[.slice A0_0 l0_0.length c0_0, .int .i64 a0_1] 59 (0, 0)) (by (with_reducible repeat (first | refine kn_ ?_ _ | refine kd_ ?_ | refine ka_ ?_ _)); exact BK176.out) hg (Kd.R_ne HO181.out BK176.out (by decide)))
           have n2_ := M_ (blk_grown (g := gb178) (o := .cells #[.int .i64 ((rd_T92 l1 x12_1).f0), .int .i64 ((rd_T92 l1 x12_1).f1), .int .i64 ((rd_T92 l1 x12_1).f2)] 92 (0, 0)) (by (with_reducible repeat (first | refine kn_ ?_ _ | refine kd_ ?_ | refine ka_ ?_ _)); exact BK178.out) hg (Kd.R_away HO181.out (fun _ hk => hk.2)))
           have n3_ := M_ (Kd.R_after (ok := (fun k_ => some k_ ≠ (.slice Ao70 x5_1.length co70 : Value).ownBlock ∧ k_ ≠ gb178)) (by (with_reducible repeat (first | apply ra_ | apply rn_ | apply rd_)); exact rm_ HO187.out (fun _ hk => ⟨⟨hk.1.1.2, hk.1.2⟩, hk.2⟩)) hg hat)
           have n4_ := M_ (hb)
           have n5_ := M_ (ho)
           clear HO_5
           clear BK176
           clear BK178
           clear HO187
           clear HB
           clear HO181
           have HO_5 := n0_
           have BK176 := n1_
           have BK178 := n2_
           have HO187 := n3_
           have HB := n4_
           have HO184 := n5_
           clear n0_ n1_ n2_ n3_ n4_ n5_
           clear ho hb hg hat
           refine hK.out _ _ ⟨(blk_cell BK178.out 0).trans rfl, (blk_cell BK178.out 1).trans rfl, (blk_cell BK178.out 2).trans rfl⟩ (fun hHeld => ?_)
           clear hK K
           refine norm_ (a' := ?_) ?_ ?_
           rotate_left
           ·show Act.put _ (some 18) _ = _
            simp only [Act.put, la_, lb_, lc_, i64_w, i32_w]
            rfl
           exact norm_ (by simp only [putAll, Act.put, la_, lb_, lc_]) (hCont (v180, v183, v186) _ ⟨hHeld, (by (with_reducible repeat (first | apply ra_ | apply rn_ | apply rd_)); exact rm_ HO184.out (fun _ hk => ⟨hk.2.1, ⟨hk.1, hk.2.2⟩⟩)), (by (with_reducible repeat (first | apply ra_ | apply rn_ | apply rd_)); exact rm_ HO187.out (fun _ hk => ⟨hk.2, ⟨hk.1.1, hk.1.2⟩⟩)), (by (with_reducible repeat (first | apply ra_ | apply rn_ | apply rd_)); exact rm_ HO_5.out (fun _ hk => ⟨hk.2, ⟨hk.1.1, hk.1.2⟩⟩)), (by (with_reducible repeat (first | refine kn_ ?_ _ | refine kd_ ?_ | refine ka_ ?_ _)); exact BK176.out), (by (with_reducible repeat (first | refine kn_ ?_ _ | refine kd_ ?_ | refine ka_ ?_ _)); exact BK178.out), (by repeat (first | (with_reducible first | exact HB.out | apply ba_ | apply bn_ | apply b1_ | refine bs_ ?_ GE176.out | refine bs_ ?_ GE178.out) | exact HB.out))⟩)
         rintro ⟨v180, v183, v186⟩ w78 ⟨hS_, h0_, h1_, h2_, h3_, h4_, h5_⟩
         have n0_ : Aside0 (Kd.R k92 92 w78 w.heap.size (fun k_ => some k_ ≠ (v186 : Value).ownBlock ∧ some k_ ≠ (.slice Ao70 x5_1.length co70 : Value).ownBlock ∧ k_ ≠ gb178) v183 y182) := ⟨h0_⟩
         have n1_ : Aside0 (Kd.R k92 92 w78 w.heap.size (fun k_ => some k_ ≠ (v183 : Value).ownBlock ∧ some k_ ≠ (.slice Ao70 x5_1.length co70 : Value).ownBlock ∧ k_ ≠ gb178) v186 y185) := ⟨h1_⟩
         have n2_ : Aside0 (Kd.R k92 92 w78 w.heap.size (fun k_ => some k_ ≠ (v183 : Value).ownBlock ∧ some k_ ≠ (v186 : Value).ownBlock ∧ k_ ≠ gb178) (.slice Ao70 x5_1.length co70) x5_1) := ⟨h2_⟩
         have n3_ : Aside0 (w78.heap[gb176]? = some (.cells #[.slice A0_0 l0_0.length c0_0, .int .i64 a0_1] 59 (0, 0))) := ⟨h3_⟩
         have n4_ : Aside0 (w78.heap[gb178]? = some (.cells #[.int .i64 ((rd_T92 l1 x12_1).f0), .int .i64 ((rd_T92 l1 x12_1).f1), .int .i64 ((rd_T92 l1 x12_1).f2)] 92 (0, 0))) := ⟨h4_⟩
         have n5_ : Aside0 (Below w.heap.size w w78) := ⟨h5_⟩
         clear HO_5
         clear BK176
         clear BK178
         clear HB
         clear h0_ h1_ h2_ h3_ h4_ h5_
         have HO184 := n0_
         have HO187 := n1_
         have HO_5 := n2_
         have BK176 := n3_
         have BK178 := n4_
         have HB := n5_
         clear n0_ n1_ n2_ n3_ n4_ n5_
         have hHeld : w78.cell? ⟨gb178, 0, none⟩ = some (.int .i64 ((rd_T92 l1 x12_1).f0)) ∧ w78.cell? ⟨gb178, 1, none⟩ = some (.int .i64 ((rd_T92 l1 x12_1).f1)) ∧ w78.cell? ⟨gb178, 2, none⟩ = some (.int .i64 ((rd_T92 l1 x12_1).f2)) := hS_
         obtain ⟨Ao80, co80, eo80⟩ := Kd.R_slice HO187.out
         (first | subst eo80 | (injection eo80 with f1_ f2_ f3_; have f4_ := f1_.symm; have f5_ := f3_.symm; clear f1_ f2_ f3_; subst f4_; subst f5_))
         refine norm_ (a' := ?_) ?_ ?_
         rotate_left
         ·simp only [putAll, Act.put, la_, lb_, lc_]
          rfl
         refine one_ (i := 5) (N := some 21) #[true, true, true, true, true, true, false] rfl rfl (by kernel_rfl) (by decide) (fun K hK => ?_)
         refine Kd.R_append_rows_step k92 (w0 := w) w.heap.size (by rfl) (.tmp 18) (.tmp 20) 24 92 (.agg #[(.int .i64 0), (.int .i64 0), (.int .i64 0)]) 24 rfl Try.underlying24 info92 rfl (by decide) (by omega) v183 y182 y185 _ _ _ (fun k_ => some k_ ≠ (.slice Ao70 x5_1.length co70 : Value).ownBlock ∧ some k_ ≠ (.slice Ao80 y185.length co80 : Value).ownBlock ∧ k_ ≠ gb178) (fun _ => False) rfl rfl ?aO ?aR (fun _ _ h => h) (fun _ h => h.elim) ?aF ?aB ?aS ?aL ?_
         (case aR => repeat (first | exact (Kd.R_reads' HO187.out).2.2 | (with_reducible refine Kd.C_alloc ?_ _) | (with_reducible refine Kd.C_drewN ?_ _) | (with_reducible refine Kd.C_drew ?_)))
         (case aB => exact (by repeat (first | (with_reducible first | exact HB.out | apply ba_ | apply bn_ | apply b1_ | refine bs_ ?_ GE176.out | refine bs_ ?_ GE178.out) | exact HB.out)))
         (case aF => exact (fun k_ hk => ⟨Kd.fresh' (Kd.R_lt (by (with_reducible repeat (first | apply ra_ | apply rn_ | apply rd_)); exact HO_5.out)) k_ hk, Kd.fresh' (Kd.R_lt (by (with_reducible repeat (first | apply ra_ | apply rn_ | apply rd_)); exact HO187.out)) k_ hk, Kd.freshB (g := gb178) (o := .cells #[.int .i64 ((rd_T92 l1 x12_1).f0), .int .i64 ((rd_T92 l1 x12_1).f1), .int .i64 ((rd_T92 l1 x12_1).f2)] 92 (0, 0)) (by (with_reducible repeat (first | refine kn_ ?_ _ | refine kd_ ?_ | refine ka_ ?_ _)); exact BK178.out) k_ hk⟩))
         (case aO => exact (by (with_reducible repeat (first | apply ra_ | apply rn_ | apply rd_)); exact rm_ HO184.out (fun _ hk => ⟨hk.2.1, ⟨hk.1, hk.2.2⟩⟩)))
         (case aS => exact (below_size (by repeat (first | (with_reducible first | exact HB.out | apply ba_ | apply bn_ | apply b1_ | refine bs_ ?_ GE176.out | refine bs_ ?_ GE178.out) | exact HB.out))))
         (case aL => have := LMc8.out; omega)
         intro v189 w79 ho hb hg hat
         rw [← Ny188.out] at ho
         have n0_ := M_ (Kd.R_after (ok := (fun k_ => some k_ ≠ (.slice Ao80 y185.length co80 : Value).ownBlock ∧ k_ ≠ gb178)) (by (with_reducible repeat (first | apply ra_ | apply rn_ | apply rd_)); exact rm_ HO_5.out (fun _ hk => ⟨⟨hk.2.1, hk.2.2⟩, hk.1⟩)) hg hat)
         have n1_ := M_ (blk_grown (g := gb176) (o := .cells #[.slice A0_0 l0_0.length c0_0, .int .i64 a0_1] 59 (0, 0)) (by (with_reducible repeat (first | refine kn_ ?_ _ | refine kd_ ?_ | refine ka_ ?_ _)); exact BK176.out) hg (Kd.R_ne HO184.out BK176.out (by decide)))
         have n2_ := M_ (blk_grown (g := gb178) (o := .cells #[.int .i64 ((rd_T92 l1 x12_1).f0), .int .i64 ((rd_T92 l1 x12_1).f1), .int .i64 ((rd_T92 l1 x12_1).f2)] 92 (0, 0)) (by (with_reducible repeat (first | refine kn_ ?_ _ | refine kd_ ?_ | refine ka_ ?_ _)); exact BK178.out) hg (Kd.R_away HO184.out (fun _ hk => hk.2.2)))
         have n3_ := M_ (Kd.R_after (ok := (fun k_ => some k_ ≠ (.slice Ao70 x5_1.length co70 : Value).ownBlock ∧ k_ ≠ gb178)) (by (with_reducible repeat (first | apply ra_ | apply rn_ | apply rd_)); exact rm_ HO187.out (fun _ hk => ⟨⟨hk.2.1, hk.2.2⟩, hk.1⟩)) hg hat)
         have n4_ := M_ (hb)
         have n5_ := M_ (ho)
         clear HO_5
         clear BK176
         clear BK178
         clear HO187
         clear HB
         clear HO184
         have HO_5 := n0_
         have BK176 := n1_
         have BK178 := n2_
         have HO187 := n3_
         have HB := n4_
         have HO190 := n5_
         clear n0_ n1_ n2_ n3_ n4_ n5_
         clear ho hb hg hat
         refine hK.out _ _ ⟨(blk_cell BK178.out 0).trans rfl, (blk_cell BK178.out 1).trans rfl, (blk_cell BK178.out 2).trans rfl⟩ (fun hHeld => ?_)
         clear hK K
         refine norm_ (a' := ?_) ?_ ?_
         rotate_left
         ·show Act.put _ (some 21) _ = _
          simp only [Act.put, la_, lb_, lc_, i64_w, i32_w]
          rfl
         refine pure_ (i := 6) (N := some 8) (v := ?_) (a' := ?_) #[true, true, true, true, true, true, true] rfl rfl (by kernel_rfl) (fun _ _ _ h => h) (Or.inl ⟨by rfl, ?_⟩) ?_ ?_
         rotate_left
         ·intro w'
          go_simp
          with_reducible rfl
         rotate_left
         ·simp only [Act.put, la_, lb_, lc_, i64_w, i32_w]
          rfl
         refine done_ (by kernel_rfl) ?_
         obtain ⟨Ao81, co81, eo81⟩ := Kd.R_slice HO190.out
         subst eo81
         try go_wp2_with (first | ((with_reducible refine gate_callee (f := 140) rfl ?_); refine goesL_ (some 25) rfl rfl Try.func140 (by kernel_rfl) rfl #[.slice Ao81 y188.length co81, .int .i64 (x5_1.length : Int)] rfl (by (try simp only [List.map_toArray, List.map_cons, List.map_nil]); first | done | rfl | (simp only [List.length_drop, List.length_take]; rfl)) ?_; (with_reducible refine (spec_inLast.calls k1 _ _ y188 (x5_1.length : Int) t191 _ ?side1 ?side2 A9.out).mono ?_); (case side1 => repeat (first | exact (Kd.R_reads' HO190.out).2.2 | (with_reducible refine Kd.C_alloc ?_ _) | (with_reducible refine Kd.C_drewN ?_ _) | (with_reducible refine Kd.C_drew ?_))); (case side2 => exact (Kd.R_reads' HO190.out).2.1); rintro e w' ⟨rfl, ⟨nd, rfl⟩⟩; refine ⟨_, rfl, ?_⟩))
         (try (rw [drewN_self w79]; generalize hq_ : World.drewN w79 _ = w79; have n0_ : Aside0 (Kd.R k92 92 w79 w.heap.size (fun k_ => some k_ ≠ (.slice Ao81 y188.length co81 : Value).ownBlock ∧ some k_ ≠ (.slice Ao70 x5_1.length co70 : Value).ownBlock ∧ k_ ≠ gb178) (.slice Ao80 y185.length co80) y185) := ⟨by rw [← hq_]; exact (by (with_reducible repeat (first | apply ra_ | apply rn_ | apply rd_)); exact rm_ HO187.out (fun _ hk => ⟨hk.2, ⟨hk.1.1, hk.1.2⟩⟩))⟩; have n1_ : Aside0 (Kd.R k92 92 w79 w.heap.size (fun k_ => some k_ ≠ (.slice Ao80 y185.length co80 : Value).ownBlock ∧ some k_ ≠ (.slice Ao70 x5_1.length co70 : Value).ownBlock ∧ k_ ≠ gb178) (.slice Ao81 y188.length co81) y188) := ⟨by rw [← hq_]; exact (by (with_reducible repeat (first | apply ra_ | apply rn_ | apply rd_)); exact rm_ HO190.out (fun _ hk => ⟨hk.2.1, ⟨hk.1, hk.2.2⟩⟩))⟩; have n2_ : Aside0 (Kd.R k92 92 w79 w.heap.size (fun k_ => some k_ ≠ (.slice Ao80 y185.length co80 : Value).ownBlock ∧ some k_ ≠ (.slice Ao81 y188.length co81 : Value).ownBlock ∧ k_ ≠ gb178) (.slice Ao70 x5_1.length co70) x5_1) := ⟨by rw [← hq_]; exact (by (with_reducible repeat (first | apply ra_ | apply rn_ | apply rd_)); exact rm_ HO_5.out (fun _ hk => ⟨hk.1.1, ⟨hk.2, hk.1.2⟩⟩))⟩; have n3_ : Aside0 (w79.heap[gb176]? = some (.cells #[.slice A0_0 l0_0.length c0_0, .int .i64 a0_1] 59 (0, 0))) := ⟨by rw [← hq_]; exact (by (with_reducible repeat (first | refine kn_ ?_ _ | refine kd_ ?_ | refine ka_ ?_ _)); exact BK176.out)⟩; have n4_ : Aside0 (w79.heap[gb178]? = some (.cells #[.int .i64 ((rd_T92 l1 x12_1).f0), .int .i64 ((rd_T92 l1 x12_1).f1), .int .i64 ((rd_T92 l1 x12_1).f2)] 92 (0, 0))) := ⟨by rw [← hq_]; exact (by (with_reducible repeat (first | refine kn_ ?_ _ | refine kd_ ?_ | refine ka_ ?_ _)); exact BK178.out)⟩; have n5_ : Aside0 (Below w.heap.size w w79) := ⟨by rw [← hq_]; exact (by repeat (first | (with_reducible first | exact HB.out | apply ba_ | apply bn_ | apply b1_ | refine bs_ ?_ GE176.out | refine bs_ ?_ GE178.out) | exact HB.out))⟩; clear HO187 HO190 HO_5 BK176 BK178 HB hq_; have HO187 := n0_; have HO190 := n1_; have HO_5 := n2_; have BK176 := n3_; have BK178 := n4_; have HB := n5_; clear n0_ n1_ n2_ n3_ n4_ n5_))
         have n0_ := M_ (rd_ HO_5.out)
         have n1_ := M_ (rd_ HO187.out)
         have n2_ := M_ (rd_ HO190.out)
         have n3_ := M_ (kd_ BK176.out)
         have n4_ := M_ (kd_ BK178.out)
         have n5_ := M_ (b1_ HB.out)
         clear HO_5
         clear HO187
         clear HO190
         clear BK176
         clear BK178
         clear HB
         have HO_5 := n0_
         have HO187 := n1_
         have HO190 := n2_
         have BK176 := n3_
         have BK178 := n4_
         have HB := n5_
         clear n0_ n1_ n2_ n3_ n4_ n5_
         refine start_ (n := 22) (S := fun w' => w'.cell? ⟨gb176, 0, none⟩ = some (.slice A0_0 l0_0.length c0_0) ∧ w'.cell? ⟨gb176, 1, none⟩ = some (.int .i64 a0_1) ∧ w'.cell? ⟨gb178, 0, none⟩ = some (.int .i64 ((rd_T92 l1 x12_1).f0)) ∧ w'.cell? ⟨gb178, 1, none⟩ = some (.int .i64 ((rd_T92 l1 x12_1).f1)) ∧ w'.cell? ⟨gb178, 2, none⟩ = some (.int .i64 ((rd_T92 l1 x12_1).f2))) (ds := []) #[false, false, false, false, false, false, false, false, false, false, false, false, false, false, false, false, false, false, false, false, false, false] (by kernel_rfl) rfl rfl ⟨(blk_cell BK176.out 0).trans rfl, (blk_cell BK176.out 1).trans rfl, (blk_cell BK178.out 0).trans rfl, (blk_cell BK178.out 1).trans rfl, (blk_cell BK178.out 2).trans rfl⟩ (fun hHeld => ?_); refine with_tabW spec_inPart.tab7 spec_inPart.bits7 (fun HT_ HW_ => ?_)
         generalize w79.drew = w82 at HO_5 HO187 HO190 BK176 BK178 HB hHeld ⊢
         refine pure_ (i := 1) (N := some 27) (v := ?_) (a' := ?_) #[false, true, false, false, false, false, false, false, false, false, false, false, false, false, false, false, false, false, false, false, false, false] rfl rfl (any_of HT_.out (by kernel_rfl)) (fun _ _ _ h => h) (Or.inl ⟨by rfl, ?_⟩) ?_ ?_
         rotate_left
         ·intro w'
          go_simp
          with_reducible rfl
         rotate_left
         ·simp only [Act.put, la_, lb_, lc_, i64_w, i32_w]
          rfl
         refine take_ (i := 0) (N := some 26) (v := ?_) (a' := ?_) #[true, true, false, false, false, false, false, false, false, false, false, false, false, false, false, false, false, false, false, false, false, false] rfl rfl (take_ofW HT_.out HW_.out (by kernel_rfl)) (fun _ _ _ h => h) (Or.inl ⟨by rfl, ?_⟩) hHeld ?_ ?_
         rotate_left
         ·rintro w' ⟨s0, s1, s2, s3, s4⟩
          go_simp
          with_reducible rfl
         rotate_left
         ·simp only [Act.put, la_, lb_, lc_, i64_w, i32_w]
          rfl
         refine take_ (i := 2) (N := some 28) (v := ?_) (a' := ?_) #[true, true, true, false, false, false, false, false, false, false, false, false, false, false, false, false, false, false, false, false, false, false] rfl rfl (take_ofW HT_.out HW_.out (by kernel_rfl)) (fun _ _ _ h => h) (Or.inl ⟨by rfl, ?_⟩) hHeld ?_ ?_
         rotate_left
         ·rintro w' ⟨s0, s1, s2, s3, s4⟩
          go_simp
          with_reducible rfl
         rotate_left
         ·simp only [Act.put, la_, lb_, lc_, i64_w, i32_w]
          rfl
         refine one_ (i := 3) (N := some 29) #[true, true, true, true, false, false, false, false, false, false, false, false, false, false, false, false, false, false, false, false, false, false] rfl rfl (one_of HT_.out (by kernel_rfl)) (by decide) (fun K hK => ?_)
         refine goes_ Try.func141 (by kernel_rfl) rfl #[.agg #[.slice A0_0 l0_0.length c0_0, .int .i64 a0_1], .int .i64 ((rd_T92 l1 x12_1).f0)] (by rfl) rfl rfl (by (try simp only [List.map_toArray, List.map_cons, List.map_nil]); first | done | rfl | (simp only [List.length_drop, List.length_take]; rfl)) ?_
         with_reducible refine (spec_inTrack.calls k1 _ _ l0_0 a0_1 ((rd_T92 l1 x12_1).f0) t192 _ ?side1 ?side2 A10.out).mono ?_
         (case side1 => repeat (first | exact (Kd.C_below HR0_0.out HB.out) | (with_reducible refine Kd.C_alloc ?_ _) | (with_reducible refine Kd.C_drewN ?_ _) | (with_reducible refine Kd.C_drew ?_)))
         (case side2 => exact HC0_0.out)
         rintro e w83 ⟨rfl, hb⟩
         refine ⟨_, rfl, ?_⟩
         have n0_ := M_ (rb_ (by (with_reducible repeat (first | apply ra_ | apply rn_ | apply rd_)); exact HO_5.out) hb)
         have n1_ := M_ (rb_ (by (with_reducible repeat (first | apply ra_ | apply rn_ | apply rd_)); exact HO187.out) hb)
         have n2_ := M_ (rb_ (by (with_reducible repeat (first | apply ra_ | apply rn_ | apply rd_)); exact HO190.out) hb)
         have n3_ := M_ (blk_below (g := gb176) (o := .cells #[.slice A0_0 l0_0.length c0_0, .int .i64 a0_1] 59 (0, 0)) (by (with_reducible repeat (first | refine kn_ ?_ _ | refine kd_ ?_ | refine ka_ ?_ _)); exact BK176.out) hb)
         have n4_ := M_ (blk_below (g := gb178) (o := .cells #[.int .i64 ((rd_T92 l1 x12_1).f0), .int .i64 ((rd_T92 l1 x12_1).f1), .int .i64 ((rd_T92 l1 x12_1).f2)] 92 (0, 0)) (by (with_reducible repeat (first | refine kn_ ?_ _ | refine kd_ ?_ | refine ka_ ?_ _)); exact BK178.out) hb)
         have n5_ := M_ (below_step (by repeat (first | (with_reducible first | exact HB.out | apply ba_ | apply bn_ | apply b1_ | refine bs_ ?_ GE176.out | refine bs_ ?_ GE178.out) | exact HB.out)) hb)
         clear HO_5
         clear HO187
         clear HO190
         clear BK176
         clear BK178
         clear HB
         have HO_5 := n0_
         have HO187 := n1_
         have HO190 := n2_
         have BK176 := n3_
         have BK178 := n4_
         have HB := n5_
         clear n0_ n1_ n2_ n3_ n4_ n5_
         (try clear hb)
         (try clear hb2)
         (try clear hk)
         (try clear hi)
         refine hK.out _ _ ⟨(blk_cell BK176.out 0).trans rfl, (blk_cell BK176.out 1).trans rfl, (blk_cell BK178.out 0).trans rfl, (blk_cell BK178.out 1).trans rfl, (blk_cell BK178.out 2).trans rfl⟩ (fun hHeld => ?_)
         clear hK K
         refine norm_ (a' := ?_) ?_ ?_
         rotate_left
         ·show Act.put _ (some 29) _ = _
          simp only [Act.put, la_, lb_, lc_, i64_w, i32_w]
          rfl
         refine pure_ (i := 4) (N := some 30) (v := ?_) (a' := ?_) #[true, true, true, true, true, false, false, false, false, false, false, false, false, false, false, false, false, false, false, false, false, false] rfl rfl (any_of HT_.out (by kernel_rfl)) (fun _ _ _ h => h) (Or.inl ⟨by rfl, ?_⟩) ?_ ?_
         rotate_left
         ·intro w'
          go_simp
          with_reducible rfl
         rotate_left
         ·simp only [Act.put, la_, lb_, lc_, i64_w, i32_w]
          rfl
         refine pure_ (i := 5) (N := some 31) (v := ?_) (a' := ?_) #[true, true, true, true, true, true, false, false, false, false, false, false, false, false, false, false, false, false, false, false, false, false] rfl rfl (any_of HT_.out (by kernel_rfl)) (fun _ _ _ h => h) (Or.inl ⟨by rfl, ?_⟩) ?_ ?_
         rotate_left
         ·intro w'
          go_simp
          with_reducible rfl
         rotate_left
         ·simp only [Act.put, la_, lb_, lc_, i64_w, i32_w]
          rfl
         refine pure_ (i := 6) (N := some 32) (v := undef) (a' := ?_) #[true, true, true, true, true, true, true, false, false, false, false, false, false, false, false, false, false, false, false, false, false, false] rfl rfl (any_of HT_.out (by kernel_rfl)) (fun _ _ _ h => h) (Or.inr ⟨by rfl, rfl⟩) ?_ ?_
         rotate_left
         ·simp only [Act.put, la_, lb_, lc_, i64_w, i32_w]
          rfl
         refine pure_ (i := 7) (N := some 33) (v := undef) (a' := ?_) #[true, true, true, true, true, true, true, true, false, false, false, false, false, false, false, false, false, false, false, false, false, false] rfl rfl (any_of HT_.out (by kernel_rfl)) (fun _ _ _ h => h) (Or.inr ⟨by rfl, rfl⟩) ?_ ?_
         rotate_left
         ·simp only [Act.put, la_, lb_, lc_, i64_w, i32_w]
          rfl
         refine pure_ (i := 8) (N := some 34) (v := undef) (a' := ?_) #[true, true, true, true, true, true, true, true, true, false, false, false, false, false, false, false, false, false, false, false, false, false] rfl rfl (any_of HT_.out (by kernel_rfl)) (fun _ _ _ h => h) (Or.inr ⟨by rfl, rfl⟩) ?_ ?_
         rotate_left
         ·simp only [Act.put, la_, lb_, lc_, i64_w, i32_w]
          rfl
         refine pure_ (i := 9) (N := some 35) (v := undef) (a' := ?_) #[true, true, true, true, true, true, true, true, true, true, false, false, false, false, false, false, false, false, false, false, false, false] rfl rfl (any_of HT_.out (by kernel_rfl)) (fun _ _ _ h => h) (Or.inr ⟨by rfl, rfl⟩) ?_ ?_
         rotate_left
         ·simp only [Act.put, la_, lb_, lc_, i64_w, i32_w]
          rfl
         refine pure_ (i := 10) (N := some 36) (v := undef) (a' := ?_) #[true, true, true, true, true, true, true, true, true, true, true, false, false, false, false, false, false, false, false, false, false, false] rfl rfl (any_of HT_.out (by kernel_rfl)) (fun _ _ _ h => h) (Or.inr ⟨by rfl, rfl⟩) ?_ ?_
         rotate_left
         ·simp only [Act.put, la_, lb_, lc_, i64_w, i32_w]
          rfl
         refine pure_ (i := 11) (N := some 37) (v := undef) (a' := ?_) #[true, true, true, true, true, true, true, true, true, true, true, true, false, false, false, false, false, false, false, false, false, false] rfl rfl (any_of HT_.out (by kernel_rfl)) (fun _ _ _ h => h) (Or.inr ⟨by rfl, rfl⟩) ?_ ?_
         rotate_left
         ·simp only [Act.put, la_, lb_, lc_, i64_w, i32_w]
          rfl
         refine pure_ (i := 12) (N := some 38) (v := undef) (a' := ?_) #[true, true, true, true, true, true, true, true, true, true, true, true, true, false, false, false, false, false, false, false, false, false] rfl rfl (any_of HT_.out (by kernel_rfl)) (fun _ _ _ h => h) (Or.inr ⟨by rfl, rfl⟩) ?_ ?_
         rotate_left
         ·simp only [Act.put, la_, lb_, lc_, i64_w, i32_w]
          rfl
         refine pure_ (i := 13) (N := some 39) (v := undef) (a' := ?_) #[true, true, true, true, true, true, true, true, true, true, true, true, true, true, false, false, false, false, false, false, false, false] rfl rfl (any_of HT_.out (by kernel_rfl)) (fun _ _ _ h => h) (Or.inr ⟨by rfl, rfl⟩) ?_ ?_
         rotate_left
         ·simp only [Act.put, la_, lb_, lc_, i64_w, i32_w]
          rfl
         refine pure_ (i := 14) (N := some 40) (v := undef) (a' := ?_) #[true, true, true, true, true, true, true, true, true, true, true, true, true, true, true, false, false, false, false, false, false, false] rfl rfl (any_of HT_.out (by kernel_rfl)) (fun _ _ _ h => h) (Or.inr ⟨by rfl, rfl⟩) ?_ ?_
         rotate_left
         ·simp only [Act.put, la_, lb_, lc_, i64_w, i32_w]
          rfl
         refine pure_ (i := 15) (N := some 41) (v := undef) (a' := ?_) #[true, true, true, true, true, true, true, true, true, true, true, true, true, true, true, true, false, false, false, false, false, false] rfl rfl (any_of HT_.out (by kernel_rfl)) (fun _ _ _ h => h) (Or.inr ⟨by rfl, rfl⟩) ?_ ?_
         rotate_left
         ·simp only [Act.put, la_, lb_, lc_, i64_w, i32_w]
          rfl
         refine pure_ (i := 16) (N := some 42) (v := undef) (a' := ?_) #[true, true, true, true, true, true, true, true, true, true, true, true, true, true, true, true, true, false, false, false, false, false] rfl rfl (any_of HT_.out (by kernel_rfl)) (fun _ _ _ h => h) (Or.inr ⟨by rfl, rfl⟩) ?_ ?_
         rotate_left
         ·simp only [Act.put, la_, lb_, lc_, i64_w, i32_w]
          rfl
         refine pure_ (i := 17) (N := some 43) (v := undef) (a' := ?_) #[true, true, true, true, true, true, true, true, true, true, true, true, true, true, true, true, true, true, false, false, false, false] rfl rfl (any_of HT_.out (by kernel_rfl)) (fun _ _ _ h => h) (Or.inr ⟨by rfl, rfl⟩) ?_ ?_
         rotate_left
         ·simp only [Act.put, la_, lb_, lc_, i64_w, i32_w]
          rfl
         refine pure_ (i := 18) (N := some 44) (v := undef) (a' := ?_) #[true, true, true, true, true, true, true, true, true, true, true, true, true, true, true, true, true, true, true, false, false, false] rfl rfl (any_of HT_.out (by kernel_rfl)) (fun _ _ _ h => h) (Or.inr ⟨by rfl, rfl⟩) ?_ ?_
         rotate_left
         ·simp only [Act.put, la_, lb_, lc_, i64_w, i32_w]
          rfl
         refine pure_ (i := 19) (N := some 45) (v := undef) (a' := ?_) #[true, true, true, true, true, true, true, true, true, true, true, true, true, true, true, true, true, true, true, true, false, false] rfl rfl (any_of HT_.out (by kernel_rfl)) (fun _ _ _ h => h) (Or.inr ⟨by rfl, rfl⟩) ?_ ?_
         rotate_left
         ·simp only [Act.put, la_, lb_, lc_, i64_w, i32_w]
          rfl
         refine pure_ (i := 20) (N := some 46) (v := undef) (a' := ?_) #[true, true, true, true, true, true, true, true, true, true, true, true, true, true, true, true, true, true, true, true, true, false] rfl rfl (any_of HT_.out (by kernel_rfl)) (fun _ _ _ h => h) (Or.inr ⟨by rfl, rfl⟩) ?_ ?_
         rotate_left
         ·simp only [Act.put, la_, lb_, lc_, i64_w, i32_w]
          rfl
         refine pure_ (i := 21) (N := some 47) (v := ?_) (a' := ?_) #[true, true, true, true, true, true, true, true, true, true, true, true, true, true, true, true, true, true, true, true, true, true] rfl rfl (any_of HT_.out (by kernel_rfl)) (fun _ _ _ h => h) (Or.inl ⟨by rfl, ?_⟩) ?_ ?_
         rotate_left
         ·intro w'
          go_simp
          with_reducible rfl
         rotate_left
         ·simp only [Act.put, la_, lb_, lc_, i64_w, i32_w]
          rfl
         refine done_ (done_of HT_.out (by kernel_rfl)) ?_
         try go_wp2
         go_roundg k1
         case measure => have := HK1.out; omega
         case rel => exact ⟨(x5_1), (wrap64 (x12_1 + 1)), (by first | rfl | (simp; done) | (simp [*]; done)), H', ⟨by have := HK1.out; omega⟩, ⟨by (with_reducible repeat (first | apply ra_ | apply rn_ | apply rd_)); exact rm_ HO_5.out (fun _ hk => trivial)⟩, ⟨by (with_reducible repeat (first | refine kn_ ?_ _ | refine kd_ ?_ | refine ka_ ?_ _)); exact BK176.out⟩, ⟨by repeat (first | (with_reducible first | exact HB.out | apply ba_ | apply bn_ | apply b1_ | refine bs_ ?_ GE176.out | refine bs_ ?_ GE178.out) | exact HB.out)⟩⟩
       ·rw [if_neg c8] at H
        exact absurd H (by simp)
      ·rw [if_neg c7] at H
       exact absurd H (by simp)
     ·rw [if_neg c6] at H
      exact absurd H (by simp)
    ·rw [if_neg c5] at H
     exact absurd H (by simp)
   ·rw [if_neg c4] at H
    have c4b0 : decide (x12_1 < (l1.length : Int)) = false := decide_eq_false c4
    clear c4
    obtain rfl := Option.some.inj H
    go_wp2
    go_ret
    exact ⟨_, by first | rfl | (simp [errW_none, errW_some] <;> rfl) | (simp [*, errW_none, errW_some] <;> rfl), by (with_reducible repeat (first | apply ra_ | apply rn_ | apply rd_)); exact HO_5.out, by repeat (first | (with_reducible first | exact HB.out | apply ba_ | apply bn_ | apply b1_ | refine bs_ ?_ GE176.out) | exact HB.out)⟩

end Go.Proofs.Ytjgpngeifgcidaa.PFnExactPlayablePart
