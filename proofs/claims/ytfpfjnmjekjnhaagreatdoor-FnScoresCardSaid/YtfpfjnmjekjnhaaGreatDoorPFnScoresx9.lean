-- by wip/xprint.py, over the kit's printer
import Derived.Test.YtfpfjnmjekjnhaaGreatDoorPFnScoresx0
import Derived.Test.YtfpfjnmjekjnhaaGreatDoorPFnScoresx7
import Derived.Test.YtfpfjnmjekjnhaaGreatDoorPFnScoresx8
namespace Go.Proofs.YtfpfjnmjekjnhaaGreatDoor.PFnScores
open Go.RowKit Go.Proofs.YtfpfjnmjekjnhaaGreatDoorW.PrintWords Go.Proofs.YtfpfjnmjekjnhaaGreatDoorW.PrintLast Go.Proofs.YtfpfjnmjekjnhaaGreatDoorW.PrintMore
attribute [local go_sem] max2_int min2_int max_two min_two max_three min_three max_four min_four   -- for this text's walks alone
set_option linter.unusedVariables false
set_option linter.unusedSimpArgs false

mutual
def spec_ntSorted.l0 : Nat → List (S31) → List (S31) → Int → Int → Option ((List (S31)) × Bool)
 | 0, _, _, _, _ => none
 | k + 1, x4, x8, x9, x10 => if x10 < x9 then (if 0 ≤ x10 then (if x10 < (x8.length : Int) then (spec_ntSorted.l1 k x4 (x4.length : Int) x8 x9 x10 ((rd_T31 x8 x10).f0) ((rd_T31 x8 x10).f1) ((rd_T31 x8 x10).f2)) else (none)) else (none)) else ((spec_ntGood.f k x4).bind fun t252 => (if t252 = true then (some (x4, true)) else (some (([] : List (S31)), false))))
def spec_ntSorted.l1 : Nat → List (S31) → Int → List (S31) → Int → Int → Int → Int → Int → Option ((List (S31)) × Bool)
 | 0, _, _, _, _, _, _, _, _ => none
 | k + 1, x4, x7, x8, x9, x10, x227000, x227001, x227002 => if x7 > 0 then (if 0 ≤ (wrap64 (x7 - 1)) then (if (wrap64 (x7 - 1)) < (x4.length : Int) then ((spec_ntBefore.f x227000 x227001 x227002 ((rd_T31 x4 (wrap64 (x7 - 1))).f0) ((rd_T31 x4 (wrap64 (x7 - 1))).f1) ((rd_T31 x4 (wrap64 (x7 - 1))).f2)).bind fun t228 => (spec_ntSorted.j2 k x4 x7 x8 x9 x10 t228 x227000 x227001 x227002)) else (none)) else (none)) else (spec_ntSorted.j2 k x4 x7 x8 x9 x10 false x227000 x227001 x227002)
def spec_ntSorted.j2 : Nat → List (S31) → Int → List (S31) → Int → Int → Bool → Int → Int → Int → Option ((List (S31)) × Bool)
 | 0, _, _, _, _, _, _, _, _, _ => none
 | k + 1, x4, x7, x8, x9, x10, x26, x227000, x227001, x227002 => if x26 = true then (spec_ntSorted.l1 k x4 (wrap64 (x7 - 1)) x8 x9 x10 x227000 x227001 x227002) else ((some (([] : List (S31)) : List (S31))).bind fun y229 => (if 0 ≤ x7 then (if x7 ≤ (x4.length : Int) then ((some (x4.take (x7 : Int).toNat : List (S31))).bind fun y232 => (if y229.length + y232.length < 5864062014805 then ((some (y229 ++ y232 : List (S31))).bind fun y236 => ((some (([(⟨x227000, x227001, x227002⟩ : S31)] : List (S31)) : List (S31))).bind fun y239 => (if y236.length + y239.length < 5864062014805 then ((some (y236 ++ y239 : List (S31))).bind fun y242 => ((some (x4.drop (x7 : Int).toNat : List (S31))).bind fun y245 => (if y242.length + y245.length < 5864062014805 then (spec_ntSorted.l0 k (y242 ++ y245) x8 x9 (wrap64 (x10 + 1))) else (none)))) else (none)))) else (none))) else (none)) else (none)))
end
def spec_ntSorted.f (k : Nat) (l0 : List (S31)) : Option ((List (S31)) × Bool) := spec_ntSorted.l0 k ([] : List (S31)) l0 (l0.length : Int) 0
theorem spec_ntSorted.mono_l : ∀ k, (∀ y0 y1 y2 y3, LeO (spec_ntSorted.l0 k y0 y1 y2 y3) (spec_ntSorted.l0 (k + 1) y0 y1 y2 y3)) ∧ (∀ y0 y1 y2 y3 y4 y5 y6 y7, LeO (spec_ntSorted.l1 k y0 y1 y2 y3 y4 y5 y6 y7) (spec_ntSorted.l1 (k + 1) y0 y1 y2 y3 y4 y5 y6 y7)) ∧ (∀ y0 y1 y2 y3 y4 y5 y6 y7 y8, LeO (spec_ntSorted.j2 k y0 y1 y2 y3 y4 y5 y6 y7 y8) (spec_ntSorted.j2 (k + 1) y0 y1 y2 y3 y4 y5 y6 y7 y8))
 | 0 => ⟨fun _ _ _ _ r h => by simp [spec_ntSorted.l0] at h, fun _ _ _ _ _ _ _ _ r h => by simp [spec_ntSorted.l1] at h, fun _ _ _ _ _ _ _ _ _ r h => by simp [spec_ntSorted.j2] at h⟩
 | k + 1 => by
  obtain ⟨ih0, ih1, ih2⟩ := spec_ntSorted.mono_l k;refine ⟨?_, ?_, ?_⟩
  ·intro y0 y1 y2 y3
   unfold spec_ntSorted.l0
   have m0_ := @spec_ntGood.mono;exact mo_
  ·intro y0 y1 y2 y3 y4 y5 y6 y7
   unfold spec_ntSorted.l1
   have m0_ := @spec_ntGood.mono;exact mo_
  ·intro y0 y1 y2 y3 y4 y5 y6 y7 y8
   unfold spec_ntSorted.j2
   have m0_ := @spec_ntGood.mono;exact mo_
theorem spec_ntSorted.mono : ∀ a0 k, LeO (spec_ntSorted.f k a0) (spec_ntSorted.f (k + 1) a0) := by
 intro a0 k;obtain ⟨ih0, ih1, ih2⟩ := spec_ntSorted.mono_l k
 unfold spec_ntSorted.f
 have m0_ := @spec_ntGood.mono;exact mo_
def spec_ntSorted.T6 : Bool × List (List Nat × List Nat) := (true, [([], []), ([0], [0]), ([1], [1]), ([2], [2]), ([2], [2]), ([2], [2]), ([5, 2], [2, 5]), ([4, 6, 2], [2, 4, 6]), ([7, 2], [2, 7]), ([3, 8, 2, 2], [2, 3, 8]), ([2, 9], [2, 9])])
def spec_ntSorted.B6 : List Nat := [0, 1, 3, 7, 7, 7, 39, 119, 247, 511, 1023]
theorem spec_ntSorted.tab6 : rtab .any (opsOf Tryz.f45 6) = spec_ntSorted.T6 := by kernel_rfl
theorem spec_ntSorted.bits6 : waitsOk spec_ntSorted.T6.2 spec_ntSorted.B6 = true := by kernel_rfl
def spec_ntSorted.T8 : Bool × List (List Nat × List Nat) := (true, [([], []), ([], []), ([], []), ([1, 2], [1, 2]), ([0, 3], [0, 3]), ([], []), ([5], [5]), ([4, 6, 4], [4, 6]), ([], []), ([], []), ([8, 9], [8, 9]), ([7, 10, 7], [7, 10]), ([11, 11, 0, 1, 2, 3, 4, 5, 6, 7, 8, 9, 10, 11], [1, 8, 11])])
def spec_ntSorted.B8 : List Nat := [0, 0, 0, 6, 15, 0, 32, 127, 0, 0, 768, 2047, 4095]
theorem spec_ntSorted.tab8 : rtab .any (opsOf Tryz.f45 8) = spec_ntSorted.T8 := by kernel_rfl
theorem spec_ntSorted.bits8 : waitsOk spec_ntSorted.T8.2 spec_ntSorted.B8 = true := by kernel_rfl
set_option maxHeartbeats 8000000 in
set_option maxRecDepth 100000 in
theorem spec_ntSorted.calls (k : Nat) (A0 : Option Addr) (c0 : Nat) (l0 : List (S31)) (r1 : List (S31)) (r2 : Bool) (w : World) (hr0 : Kd.C k31 w A0 l0.length l0) (hc0 : l0.length ≤ c0) (h : spec_ntSorted.f k l0 = some (r1, r2)) :
  Calls Tryz.prog 45 #[.slice A0 l0.length c0] w fun e w' => ∃ v0_ : Value, e = .returned (.tuple #[v0_, .bool r2]) ∧ Kd.R k31 31 w' w.heap.size (fun _ => True) v0_ r1 ∧ Below w.heap.size w w' := by
 have hu31 := Tryz.underlying31;have HR0 := M_ hr0;have HC0 := M_ hc0;clear hr0 hc0;have HB := M_ (Below.refl w.heap.size w)
 have H : (spec_ntSorted.l0 k ([] : List (S31)) l0 (l0.length : Int) 0) = some (r1, r2) := h
 clear h
 have H' := M_ H
 clear H
 go_enter Tryz.func45, Tryz.ntmps45
 go_wp2
 go_loopg [4, 10] k (fun kq v4 v10 w' => ∃ (x4_1 : List (S31)) (x10_1 : Int), v10 = .int .i64 x10_1 ∧ Aside0 (spec_ntSorted.l0 kq x4_1 l0 (l0.length : Int) x10_1 = some (r1, r2)) ∧ Aside0 (kq ≤ k) ∧ Aside0 (Kd.R k31 31 w' w.heap.size (fun _ => True) v4 x4_1) ∧ Aside0 (Below w.heap.size w w'))
 case atStart => exact ⟨(([] : List (S31))), (0), eD_, H', ⟨Nat.le_refl _⟩, ⟨by first | exact Kd.R_nil _ _ _ _ _ | exact Kd.N_nil _ _ _ _ _ | exact Kd.V_nil _ _ _ _ _ | exact Kd.Q_nil _ _ _ _ _ | exact Kd.S_nil _ _ _ _ _⟩, ⟨bU_ HB⟩⟩
 case round =>
  clear H';obtain ⟨x4_1, x10_1, rfl, HA, HK1, HO_4, HB⟩ := hrel
  cases gk with
  | zero => exact absurd HA.out (by simp [spec_ntSorted.l0])
  | succ k1 =>
   have H := HA.out;clear HA;simp only [spec_ntSorted.l0] at H
   by_cases c2 : x10_1 < (l0.length : Int)
   ·rw [if_pos c2] at H
    have c2b0 : decide (x10_1 < (l0.length : Int)) = true := decide_eq_true c2
    clear c2
    by_cases c3 : 0 ≤ x10_1
    ·rw [if_pos c3] at H
     have c3b0 : decide (0 ≤ x10_1) = true := decide_eq_true c3
     clear c3
     by_cases c4 : x10_1 < (l0.length : Int)
     ·rw [if_pos c4] at H
      have c4b0 : decide (x10_1 < (l0.length : Int)) = true := decide_eq_true c4
      clear c4
      have H' := M_ H
      clear H
      have p225 : 0 ≤ (x10_1 : Int) := dT_
      have q225 : x10_1 < (l0.length : Int) := dT_
      obtain ⟨ad225, e225, hx225_0, hx225_1, hx225_2⟩ := at_T31 HR0.out x10_1 p225 q225;cases e225;replace hx225_0 := (HB.out.cell (World.block_lt_of_cell? w _ hx225_0)).trans hx225_0;replace hx225_1 := (HB.out.cell (World.block_lt_of_cell? w _ hx225_1)).trans hx225_1;replace hx225_2 := (HB.out.cell (World.block_lt_of_cell? w _ hx225_2)).trans hx225_2;replace p225 := eq_true p225;replace q225 := eq_true q225
      go_wp2_with (first | ((with_reducible refine gate_dst (N := 6) rfl ?_); refine bx_ (N := 6) (cs := #[.int .i64 0, .int .i64 0, .int .i64 0]) (t := 31) ?_; intro gb226 hg w5 hbox hb; replace HO_4 := M_ (rb_ (Kd.R_elderB (rU_ HO_4.out) gb226 (Nat.le_of_eq hg.symm)) hb); have BK226 := M_ (hbox); have GW226 := M_ (gw_ HB hg); have GE226 := M_ (gw_ HB hg); replace HB := M_ (bS_ HB hb); clear hb hbox hg; obtain ⟨hcz6_0, hcz6_1, hcz6_2, hfz6_0, hfz6_1, hfz6_2⟩ := bq3_ BK226; obtain ⟨Ao7, co7, eo7⟩ := Kd.R_slice HO_4.out; subst eo7))
      go_loopg [7] k1 (fun kq v7 w' => ∃ (x7_2 : Int), v7 = .int .i64 x7_2 ∧ Aside0 (spec_ntSorted.l1 kq x4_1 x7_2 l0 (l0.length : Int) x10_1 ((rd_T31 l0 x10_1).f0) ((rd_T31 l0 x10_1).f1) ((rd_T31 l0 x10_1).f2) = some (r1, r2)) ∧ Aside0 (kq ≤ k1) ∧ Aside0 (Kd.R k31 31 w' w.heap.size (fun k_ => k_ ≠ gb226) (.slice Ao7 x4_1.length co7) x4_1) ∧ Aside0 (w'.heap[gb226]? = some (.cells #[.int .i64 ((rd_T31 l0 x10_1).f0), .int .i64 ((rd_T31 l0 x10_1).f1), .int .i64 ((rd_T31 l0 x10_1).f2)] 31 (0, 0))) ∧ Aside0 (Below w.heap.size w w'))
      case atStart => exact ⟨((x4_1.length : Int)), eD_, H', ⟨Nat.le_refl _⟩, ⟨by (with_reducible repeat (first | apply ra_ | apply rn_ | apply rd_)); exact rm_ (Kd.R_far (p := ⟨gb226, 2, none⟩) (Kd.R_far (p := ⟨gb226, 1, none⟩) (Kd.R_far (p := ⟨gb226, 0, none⟩) (rm_ HO_4.out (fun k_ hk => (⟨hk, hk.2⟩ : _ ∧ k_ ≠ gb226))) (fun _ hk => hk.2) (.int .i64 ((rd_T31 l0 x10_1).f0))) (fun _ hk => hk.2) (.int .i64 ((rd_T31 l0 x10_1).f1))) (fun _ hk => hk.2) (.int .i64 ((rd_T31 l0 x10_1).f2))) (fun _ hk => hk.1.2)⟩, ⟨by (with_reducible repeat (first | refine kn_ ?_ _ | refine kd_ ?_ | refine ka_ ?_ _)); refine blk_put (cs := #[.int .i64 ((rd_T31 l0 x10_1).f0), .int .i64 ((rd_T31 l0 x10_1).f1), .int .i64 0]) ?_ 2 _ rfl; (with_reducible repeat (first | refine kn_ ?_ _ | refine kd_ ?_ | refine ka_ ?_ _)); refine blk_put (cs := #[.int .i64 ((rd_T31 l0 x10_1).f0), .int .i64 0, .int .i64 0]) ?_ 1 _ rfl; (with_reducible repeat (first | refine kn_ ?_ _ | refine kd_ ?_ | refine ka_ ?_ _)); refine blk_put (cs := #[.int .i64 0, .int .i64 0, .int .i64 0]) ?_ 0 _ rfl; (with_reducible repeat (first | refine kn_ ?_ _ | refine kd_ ?_ | refine ka_ ?_ _)); exact BK226.out⟩, ⟨bU_ HB⟩⟩
      case round =>
       clear H';obtain ⟨x7_2, rfl, HA, HK2, HO_4, BK226, HB⟩ := hrel
       cases gk with
       | zero => exact absurd HA.out (by simp [spec_ntSorted.l1])
       | succ k2 =>
        have H := HA.out;clear HA;simp only [spec_ntSorted.l1] at H;have HC8 := M_ H;clear H
        go_upto_region 6 with (fail)
        go_cut [26] (fun v26 wc => ∃ (kq : Nat) (x26_7 : Bool), v26 = .bool x26_7 ∧ Aside0 (spec_ntSorted.j2 kq x4_1 x7_2 l0 (l0.length : Int) x10_1 x26_7 ((rd_T31 l0 x10_1).f0) ((rd_T31 l0 x10_1).f1) ((rd_T31 l0 x10_1).f2) = some (r1, r2)) ∧ Aside0 (kq ≤ k2) ∧ Aside0 (Kd.R k31 31 wc w.heap.size (fun k_ => k_ ≠ gb226) (.slice Ao7 x4_1.length co7) x4_1) ∧ Aside0 (wc.heap[gb226]? = some (.cells #[.int .i64 ((rd_T31 l0 x10_1).f0), .int .i64 ((rd_T31 l0 x10_1).f1), .int .i64 ((rd_T31 l0 x10_1).f2)] 31 (0, 0))) ∧ Aside0 (Below w.heap.size w wc))
        case first =>
         have H := HC8.out;clear HC8
         by_cases c9 : x7_2 > 0
         ·rw [if_pos c9] at H
          have c9b0 : decide (0 < x7_2) = true := decide_eq_true c9
          clear c9
          (first | rw [c9b0] | (simp only [i64_w, i32_w]; rw [c9b0]) | skip)
          obtain ⟨ji10, hji10⟩ : ∃ j_ : Int, (wrap64 (x7_2 - 1)) = j_ := ⟨_, rfl⟩
          replace H : (if 0 ≤ (ji10) then (if (ji10) < (x4_1.length : Int) then ((spec_ntBefore.f ((rd_T31 l0 x10_1).f0) ((rd_T31 l0 x10_1).f1) ((rd_T31 l0 x10_1).f2) ((rd_T31 x4_1 (ji10)).f0) ((rd_T31 x4_1 (ji10)).f1) ((rd_T31 x4_1 (ji10)).f2)).bind fun t228 => (spec_ntSorted.j2 k2 x4_1 x7_2 l0 (l0.length : Int) x10_1 t228 ((rd_T31 l0 x10_1).f0) ((rd_T31 l0 x10_1).f1) ((rd_T31 l0 x10_1).f2))) else (none)) else (none)) = some (r1, r2) := by first | (rw [hji10] at H; exact H) | (simp only [hji10] at H ⊢; exact H)
          have hji10w : (IntKind.i64.wrap (x7_2 - 1)) = ji10 := (i64_w _).trans hji10
          by_cases c11 : 0 ≤ (ji10)
          ·rw [if_pos c11] at H
           have c11b0 : decide (0 ≤ (ji10)) = true := decide_eq_true c11
           clear c11
           by_cases c12 : (ji10) < (x4_1.length : Int)
           ·rw [if_pos c12] at H
            have c12b0 : decide ((ji10) < (x4_1.length : Int)) = true := decide_eq_true c12
            clear c12;replace H := Option.bind_eq_some_iff.mp H;obtain ⟨t228, A130, H⟩ := H;(try dsimp only at H);have A13 := M_ A130;clear A130
            have H' := M_ H
            clear H
            try go_wp2
            replace HO_4 := M_ (rd_ HO_4.out); replace BK226 := M_ (kd_ BK226.out); replace HB := M_ (b1_ HB.out)
            have p227 : 0 ≤ ((ji10) : Int) := dT_
            have q227 : (ji10) < (x4_1.length : Int) := dT_
            obtain ⟨ad227, e227, hx227_0, hx227_1, hx227_2⟩ := at_T31 (Kd.R_reads' HO_4.out).2.2 (ji10) p227 q227;cases e227;replace p227 := eq_true p227;replace q227 := eq_true q227;refine start_ (n := 11) (S := fun w' => w'.cell? ⟨gb226, 0, none⟩ = some (.int .i64 ((rd_T31 l0 x10_1).f0)) ∧ w'.cell? ⟨gb226, 1, none⟩ = some (.int .i64 ((rd_T31 l0 x10_1).f1)) ∧ w'.cell? ⟨gb226, 2, none⟩ = some (.int .i64 ((rd_T31 l0 x10_1).f2)) ∧ w'.cell? (ad227.add (((ji10)).toNat * 3)) = some (.int .i64 ((rd_T31 x4_1 (ji10)).f0)) ∧ w'.cell? ⟨(ad227.add (((ji10)).toNat * 3)).block, (ad227.add (((ji10)).toNat * 3)).off + 1, none⟩ = some (.int .i64 ((rd_T31 x4_1 (ji10)).f1)) ∧ w'.cell? ⟨(ad227.add (((ji10)).toNat * 3)).block, (ad227.add (((ji10)).toNat * 3)).off + 2, none⟩ = some (.int .i64 ((rd_T31 x4_1 (ji10)).f2))) (ds := []) #[F,F,F,F,F,F,F,F,F,F,F] (by kernel_rfl) rfl rfl ⟨bc0_ BK226, bc1_ BK226, bc2_ BK226, hx227_0, hx227_1, hx227_2⟩ (fun hHeld => ?_); refine with_tabW spec_ntSorted.tab6 spec_ntSorted.bits6 (fun HT_ HW_ => ?_);generalize wr.drew = w14 at HO_4 BK226 HB hx227_0 hx227_1 hx227_2 hHeld ⊢;refine pR_ (i := 0) (N := some 16) #[T,F,F,F,F,F,F,F,F,F,F] ?_;refine pR_ (i := 1) (N := some 17) #[T,T,F,F,F,F,F,F,F,F,F] ?_;refine pR_ (i := 2) (N := some 18) #[T,T,T,F,F,F,F,F,F,F,F] ?_;refine pR_ (i := 4) (N := some 20) #[T,T,T,F,T,F,F,F,F,F,F] ?_;refine pR_ (i := 5) (N := some 21) #[T,T,T,F,T,T,F,F,F,F,F] ?_;refine pR_ (i := 6) (N := some 22) #[T,T,T,F,T,T,T,F,F,F,F] ?_;refine pR_ (i := 7) (N := some 23) #[T,T,T,F,T,T,T,T,F,F,F] ?_;refine take_ (i := 3) (N := some 19) (v := ?_) (a' := ?_) #[T,T,T,T,T,T,T,T,F,F,F] rfl rfl (take_ofW HT_.out HW_.out (by kernel_rfl)) (fun _ _ _ h => h) (Or.inl ⟨by rfl, ?_⟩) hHeld ?_ ?_;rotate_left
            ·rintro w' ⟨s0, s1, s2, s3, s4, s5⟩
             go_simp;with_reducible rfl
            rotate_left
            ·simp only [Act.put, la_, lb_, lc_, i64_w, i32_w]
             rfl
            refine take_ (i := 8) (N := some 24) (v := ?_) (a' := ?_) #[T,T,T,T,T,T,T,T,T,F,F] rfl rfl (take_ofW HT_.out HW_.out (by kernel_rfl)) (fun _ _ _ h => h) (Or.inl ⟨by rfl, ?_⟩) hHeld ?_ ?_;rotate_left
            ·rintro w' ⟨s0, s1, s2, s3, s4, s5⟩
             go_simp;with_reducible rfl
            rotate_left
            ·simp only [Act.put, la_, lb_, lc_, i64_w, i32_w]
             rfl
            refine one_ (i := 9) (N := some 25) #[T,T,T,T,T,T,T,T,T,T,F] rfl rfl (one_of HT_.out (by kernel_rfl)) (by decide) (fun K hK => ?_);refine goes_ Tryz.func80 (by kernel_rfl) rfl #[.agg #[.int .i64 ((rd_T31 l0 x10_1).f0), .int .i64 ((rd_T31 l0 x10_1).f1), .int .i64 ((rd_T31 l0 x10_1).f2)], .agg #[.int .i64 ((rd_T31 x4_1 (ji10)).f0), .int .i64 ((rd_T31 x4_1 (ji10)).f1), .int .i64 ((rd_T31 x4_1 (ji10)).f2)]] (by rfl) rfl rfl (by (try simp only [List.map_toArray, List.map_cons, List.map_nil]); first | done | (simp only [hji10]; rfl) | rfl | (simp only [List.length_drop, List.length_take]; rfl)) ?_
            with_reducible refine (spec_ntBefore.calls ((rd_T31 l0 x10_1).f0) ((rd_T31 l0 x10_1).f1) ((rd_T31 l0 x10_1).f2) ((rd_T31 x4_1 (ji10)).f0) ((rd_T31 x4_1 (ji10)).f1) ((rd_T31 x4_1 (ji10)).f2) t228 _ A13.out).mono ?_
            rintro e w15 ⟨rfl, hb⟩;have HS3_ := (hb.cell (World.block_lt_of_cell? _ _ (hHeld.2.2.2.1))).trans (hHeld.2.2.2.1);have HS4_ := (hb.cell (World.block_lt_of_cell? _ _ (hHeld.2.2.2.2.1))).trans (hHeld.2.2.2.2.1);have HS5_ := (hb.cell (World.block_lt_of_cell? _ _ (hHeld.2.2.2.2.2))).trans (hHeld.2.2.2.2.2);refine ⟨_, rfl, ?_⟩;replace HO_4 := M_ (rB_ HO_4 hb); replace BK226 := M_ (kb_ BK226 hb); replace HB := M_ (bS_ HB hb);clear hb;refine hK.out _ _ ⟨bc0_ BK226, bc1_ BK226, bc2_ BK226, HS3_, HS4_, HS5_⟩ (fun hHeld => ?_);clear hK K;refine nM_ (some 25) ?_;refine pR_ (i := 10) (N := some 26) #[T,T,T,T,T,T,T,T,T,T,T] ?_;refine done_ (done_of HT_.out (by kernel_rfl)) ?_
            try go_wp2
            go_meet
            case rel => exact ⟨_, (t228), eD_, H', ⟨by have := HK1.out; have := HK2.out; first | omega | exact Nat.le_refl _⟩, ⟨rU_ HO_4.out⟩, ⟨kU_ BK226⟩, ⟨bU_ HB⟩⟩
           ·rw [if_neg c12] at H
            exact absurd H (by simp)
          ·rw [if_neg c11] at H
           exact absurd H (by simp)
         ·rw [if_neg c9] at H
          have c9b0 : decide (0 < x7_2) = false := decide_eq_false c9
          clear c9
          (first | rw [c9b0] | (simp only [i64_w, i32_w]; rw [c9b0]) | skip)
          have H' := M_ H
          clear H
          try go_wp2
          replace HO_4 := M_ (rd_ HO_4.out); replace BK226 := M_ (kd_ BK226.out); replace HB := M_ (b1_ HB.out);refine start_ (n := 11) (S := fun w' => True) (ds := []) #[F,F,F,F,F,F,F,F,F,F,F] (by kernel_rfl) rfl rfl trivial (fun hHeld => ?_); refine with_tabW spec_ntSorted.tab6 spec_ntSorted.bits6 (fun HT_ HW_ => ?_);generalize wr.drew = w16 at HO_4 BK226 HB hHeld ⊢;refine pR_ (i := 0) (N := some 16) #[T,F,F,F,F,F,F,F,F,F,F] ?_;refine pR_ (i := 1) (N := some 17) #[T,T,F,F,F,F,F,F,F,F,F] ?_;refine pR_ (i := 2) (N := some 18) #[T,T,T,F,F,F,F,F,F,F,F] ?_;refine pV_ (i := 3) (N := some 19) #[T,T,T,T,F,F,F,F,F,F,F] ?_;refine pV_ (i := 4) (N := some 20) #[T,T,T,T,T,F,F,F,F,F,F] ?_;refine pV_ (i := 5) (N := some 21) #[T,T,T,T,T,T,F,F,F,F,F] ?_;refine pV_ (i := 6) (N := some 22) #[T,T,T,T,T,T,T,F,F,F,F] ?_;refine pV_ (i := 7) (N := some 23) #[T,T,T,T,T,T,T,T,F,F,F] ?_;refine pV_ (i := 8) (N := some 24) #[T,T,T,T,T,T,T,T,T,F,F] ?_;refine pV_ (i := 9) (N := some 25) #[T,T,T,T,T,T,T,T,T,T,F] ?_;refine pR_ (i := 10) (N := some 26) #[T,T,T,T,T,T,T,T,T,T,T] ?_;refine done_ (done_of HT_.out (by kernel_rfl)) ?_
          try go_wp2
          go_meet
          case rel => exact ⟨_, (false), eD_, H', ⟨by have := HK1.out; have := HK2.out; first | omega | exact Nat.le_refl _⟩, ⟨rU_ HO_4.out⟩, ⟨kU_ BK226⟩, ⟨bU_ HB⟩⟩
        case rest =>
         clear HC8;obtain ⟨kq, x26_7, rfl, HA, HJ7, HO_4, BK226, HB⟩ := hcut
         cases kq with
         | zero => exact absurd HA.out (by simp [spec_ntSorted.j2])
         | succ kj7 =>
          have H := HA.out;clear HA;simp only [spec_ntSorted.j2] at H
          by_cases c17 : x26_7 = true
          ·subst c17
           rw [if_pos rfl] at H
           have H' := M_ H
           clear H
           go_wp2
           go_roundg kj7
           case measure => have := HK1.out; have := HK2.out; have := HJ7.out; omega
           case rel => exact ⟨(wrap64 (x7_2 - 1)), eD_, H', ⟨by have := HK1.out; have := HK2.out; have := HJ7.out; omega⟩, ⟨rU_ HO_4.out⟩, ⟨kU_ BK226⟩, ⟨bU_ HB⟩⟩
          ·replace c17 := Bool.eq_false_iff.mpr c17
           subst c17
           rw [if_neg (show ¬ (false = true) by decide)] at H
           obtain ⟨y229, hy229, H⟩ := ob_ H;(try dsimp only at H);have Ny229 := M_ hy229;clear hy229
           by_cases c18 : 0 ≤ x7_2
           ·rw [if_pos c18] at H
            have c18b0 := eq_true c18
            have c18b1 : decide (0 ≤ x7_2) = true := decide_eq_true c18
            clear c18
            by_cases c19 : x7_2 ≤ (x4_1.length : Int)
            ·rw [if_pos c19] at H
             have c19b0 := eq_true c19
             have c19b1 : decide (x7_2 ≤ (x4_1.length : Int)) = true := decide_eq_true c19
             clear c19;obtain ⟨y232, hy232, H⟩ := ob_ H;(try dsimp only at H);have Ny232 := M_ hy232;clear hy232
             by_cases c20 : y229.length + y232.length < 5864062014805
             ·rw [if_pos c20] at H
              have LMc20 := M_ c20;clear c20;obtain ⟨y236, hy236, H⟩ := ob_ H;(try dsimp only at H);have Ny236 := M_ hy236;clear hy236;obtain ⟨y239, hy239, H⟩ := ob_ H;(try dsimp only at H);have Ny239 := M_ hy239;clear hy239
              by_cases c21 : y236.length + y239.length < 5864062014805
              ·rw [if_pos c21] at H
               have LMc21 := M_ c21;clear c21;obtain ⟨y242, hy242, H⟩ := ob_ H;(try dsimp only at H);have Ny242 := M_ hy242;clear hy242;have c22b0 := eq_true (dT_ : 0 ≤ x7_2);have c23b0 := eq_true (dT_ : x7_2 ≤ (x4_1.length : Int));obtain ⟨y245, hy245, H⟩ := ob_ H;(try dsimp only at H);have Ny245 := M_ hy245;clear hy245
               by_cases c24 : y242.length + y245.length < 5864062014805
               ·rw [if_pos c24] at H
                have LMc24 := M_ c24;clear c24;obtain ⟨y249, hy249⟩ : ∃ y_ : List (S31), y_ = (y242 ++ y245) := ⟨_, rfl⟩
                replace H : (spec_ntSorted.l0 kj7 y249 l0 (l0.length : Int) (wrap64 (x10_1 + 1))) = some (r1, r2) := by first | (rw [hy249]; with_reducible exact H) | (have H2_ := (Option.bind_some _ _).symm.trans H; rw [hy249]; with_reducible exact H2_) | (have H2_ := (Option.bind_some _ _).symm.trans H; with_reducible exact H2_) | with_reducible exact H | (rw [hy249]; exact H) | exact H
                have Ny249 := M_ hy249;clear hy249
                have H' := M_ H
                clear H
                try go_wp2
                replace HO_4 := M_ (rd_ HO_4.out); replace BK226 := M_ (kd_ BK226.out); replace HB := M_ (b1_ HB.out)
                have q26 : (x7_2 : Int) ≤ ((x4_1.length : Int) : Int) := dT_
                obtain ⟨i026, hi026, _, hsz26, _⟩ := info_parts info31
                have hroom26 : x4_1.length ≤ co7 := (Kd.R_reads' HO_4.out).2.1
                have hC26 : Kd.C k31 _ Ao7 x4_1.length x4_1 := (Kd.R_reads' HO_4.out).2.2
                have hcut26 := cut_to (P := Tryz.prog) 24 31 .i64 Tryz.underlying24 hi026 Ao7 x4_1.length co7 x7_2 (dT_) q26 hroom26;have hr26 := Kd.C_take (m := (x7_2 : Int).toNat) hC26 (by omega)
                have hy26 : y232.length = (x7_2 : Int).toNat := (by rw [Ny232.out, List.length_take]; omega)
                rw [← Ny232.out] at hr26
                rw [← hy26] at hcut26
                have HR235 := M_ hr26;have HC235 := M_ (show y232.length ≤ co7 from by omega);clear hr26 hC26 hroom26 hi026 hsz26;have KY26 := M_ hy26;clear hy26;have KL26 := M_ (show (x7_2 : Int).toNat ≤ x4_1.length from by omega);replace q26 := eq_true q26
                have q27 : (x7_2 : Int) ≤ ((x4_1.length : Int) : Int) := dT_
                obtain ⟨i027, hi027, _, hsz27, _⟩ := info_parts info31
                have hroom27 : x4_1.length ≤ co7 := (Kd.R_reads' HO_4.out).2.1
                have hC27 : Kd.C k31 _ Ao7 x4_1.length x4_1 := (Kd.R_reads' HO_4.out).2.2
                have q027 : (0 : Int) ≤ (x7_2 : Int) := dT_
                have hcut27 := cut_from (P := Tryz.prog) 24 31 .i64 Tryz.underlying24 hi027 3 hsz27 Ao7 x4_1.length co7 x7_2 q027 q27;have hr27 := Kd.C_drop (m := (x7_2 : Int).toNat) (c := co7) hC27 (by omega) hroom27;obtain ⟨A27, hA27⟩ : ∃ A1, A1 = (if co7 = (x7_2 : Int).toNat then Ao7 else (Ao7 : Option Addr).map (·.add ((x7_2 : Int).toNat * 3))) := ⟨_, rfl⟩;obtain ⟨c27, hc27⟩ : ∃ c1, c1 = co7 - (x7_2 : Int).toNat := ⟨_, rfl⟩
                have hy27 : y245.length = x4_1.length - (x7_2 : Int).toNat := (by rw [Ny245.out, List.length_drop] <;> omega)
                rw [show (x4_1).drop (x7_2 : Int).toNat = y245 from Ny245.out.symm] at hr27
                replace hr27 : Kd.C k31 _ A27 y245.length y245 := (by rw [hA27]; exact hr27)
                rw [← hy27, ← hA27, ← hc27] at hcut27
                have HR248 := M_ hr27;have HC248 := M_ (show y245.length ≤ c27 from by rw [hy27, hc27]; exact Nat.sub_le_sub_right hroom27 _);clear hr27 hC27 hroom27 hi027 hsz27 hc27;have KY27 := M_ hy27;have KA27 := M_ hA27;clear hy27 hA27;have KL27 := M_ (show (x7_2 : Int).toNat ≤ x4_1.length from by omega);replace q27 := eq_true q27;refine start_ (n := 13) (S := fun w' => w'.cell? ⟨gb226, 0, none⟩ = some (.int .i64 ((rd_T31 l0 x10_1).f0)) ∧ w'.cell? ⟨gb226, 1, none⟩ = some (.int .i64 ((rd_T31 l0 x10_1).f1)) ∧ w'.cell? ⟨gb226, 2, none⟩ = some (.int .i64 ((rd_T31 l0 x10_1).f2))) (ds := []) #[F,F,F,F,F,F,F,F,F,F,F,F,F] (by kernel_rfl) rfl rfl ⟨bc0_ BK226, bc1_ BK226, bc2_ BK226⟩ (fun hHeld => ?_); refine with_tabW spec_ntSorted.tab8 spec_ntSorted.bits8 (fun HT_ HW_ => ?_);generalize wc.drew = w25 at HO_4 BK226 HB HR235 HR248 hHeld ⊢;refine pR_ (i := 1) (N := some 30) #[F,T,F,F,F,F,F,F,F,F,F,F,F] ?_;refine pR_ (i := 2) (N := some 31) #[F,T,T,F,F,F,F,F,F,F,F,F,F] ?_;refine pR_ (i := 3) (N := some 32) #[F,T,T,T,F,F,F,F,F,F,F,F,F] ?_;refine pR_ (i := 8) (N := some 37) #[F,T,T,T,F,F,F,F,T,F,F,F,F] ?_;refine pR_ (i := 9) (N := some 38) #[F,T,T,T,F,F,F,F,T,T,F,F,F] ?_;refine pR_ (i := 10) (N := some 39) #[F,T,T,T,F,F,F,F,T,T,T,F,F] ?_;refine take_ (i := 5) (N := some 34) (v := ?_) (a' := ?_) #[F,T,T,T,F,T,F,F,T,T,T,F,F] rfl rfl (take_ofW HT_.out HW_.out (by kernel_rfl)) (fun _ _ _ h => h) (Or.inl ⟨by rfl, ?_⟩) hHeld ?_ ?_;rotate_left
                ·rintro w' ⟨s0, s1, s2⟩
                 go_simp;with_reducible rfl
                rotate_left
                ·simp only [Act.put, la_, lb_, lc_, i64_w, i32_w]
                 rfl
                refine join_ (σ := Value × Value × Value) 3 #[T,T,T,T,T,T,T,F,T,T,T,F,F] (fun s_ => [(29, s_.1), (33, s_.2.1), (35, s_.2.2)]) (fun s_ w' => (w'.cell? ⟨gb226, 0, none⟩ = some (.int .i64 ((rd_T31 l0 x10_1).f0)) ∧ w'.cell? ⟨gb226, 1, none⟩ = some (.int .i64 ((rd_T31 l0 x10_1).f1)) ∧ w'.cell? ⟨gb226, 2, none⟩ = some (.int .i64 ((rd_T31 l0 x10_1).f2))) ∧ (Kd.R k31 31 w' w.heap.size (fun k_ => some k_ ≠ (s_.2.2 : Value).ownBlock ∧ some k_ ≠ (.slice Ao7 x4_1.length co7 : Value).ownBlock ∧ k_ ≠ gb226) s_.2.1 y236) ∧ (Kd.R k31 31 w' w.heap.size (fun k_ => some k_ ≠ (s_.2.1 : Value).ownBlock ∧ some k_ ≠ (.slice Ao7 x4_1.length co7 : Value).ownBlock ∧ k_ ≠ gb226) s_.2.2 y239) ∧ (Kd.R k31 31 w' w.heap.size (fun k_ => some k_ ≠ (s_.2.1 : Value).ownBlock ∧ some k_ ≠ (s_.2.2 : Value).ownBlock ∧ k_ ≠ gb226) (.slice Ao7 x4_1.length co7) x4_1) ∧ (w'.heap[gb226]? = some (.cells #[.int .i64 ((rd_T31 l0 x10_1).f0), .int .i64 ((rd_T31 l0 x10_1).f1), .int .i64 ((rd_T31 l0 x10_1).f2)] 31 (0, 0))) ∧ (Below w.heap.size w w')) ?_ ?_;rotate_left
                ·intro hCont
                 refine two_ (i := 0) (j := 6) (Ni := some 29) (Nj := some 35) #[T,T,T,T,F,T,F,F,T,T,T,F,F] #[F,T,T,T,F,T,T,F,T,T,T,F,F] rfl rfl rfl rfl (two_of HT_.out (by kernel_rfl)) (by decide) (by decide) (fun K hK => ?_) (fun K hK => ?_)
                 ·skip
                  refine ls_ k31 31 (N := 29) (([] : List (S31))) [] (Reps.none _ _) ?_;intro v230 w28 ho29 hb hg_ hnew_;clear hg_ hnew_;replace ho29 := rN_ Ny229 ho29;have HO231 := M_ (Kd.R_lower (Kd.R_newB (Kd.R_new' ho29 (rl_ HO_4)) (kU_ BK226)) (bZ_ HB)); replace HO_4 := M_ (re_ HO_4 ho29 hb); replace BK226 := M_ (kb_ BK226 hb); replace HR235 := M_ (Kd.C_below (by repeat (first | (with_reducible exact HR235.out) | (with_reducible refine Kd.C_alloc ?_ _) | (with_reducible refine Kd.C_drewN ?_ _) | (with_reducible refine Kd.C_drew ?_) | exact HR235.out)) hb); replace HR248 := M_ (Kd.C_below (by repeat (first | (with_reducible exact HR248.out) | (with_reducible refine Kd.C_alloc ?_ _) | (with_reducible refine Kd.C_drewN ?_ _) | (with_reducible refine Kd.C_drew ?_) | exact HR248.out)) hb); replace HB := M_ (bS_ HB hb);clear hb ho29;refine hK.out _ _ ⟨bc0_ BK226, bc1_ BK226, bc2_ BK226⟩ (fun hHeld => ?_);clear hK K;refine nM_ (some 29) ?_;refine two_ (i := 4) (j := 6) (Ni := some 33) (Nj := some 35) #[T,T,T,T,T,T,F,F,T,T,T,F,F] #[T,T,T,T,F,T,T,F,T,T,T,F,F] rfl rfl rfl rfl (two_of HT_.out (by kernel_rfl)) (by decide) (by decide) (fun K hK => ?_) (fun K hK => ?_)
                  ·skip
                   refine Kd.R_append_rows_step k31 (w0 := w) w.heap.size (by rfl) (.tmp 29) (.tmp 32) 24 31 (.agg #[(.int .i64 0), (.int .i64 0), (.int .i64 0)]) 24 rfl Tryz.underlying24 info31 rfl (by decide) (by omega) v230 y229 y232 _ _ _ (fun k_ => some k_ ≠ (.slice Ao7 x4_1.length co7 : Value).ownBlock ∧ k_ ≠ gb226) (fun _ => False) rfl rfl ?aO ?aR (fun _ _ h => h) (fun _ h => h.elim) ?aF ?aB ?aS ?aL ?_
                   (case aR => repeat (first | exact (by repeat (first | (with_reducible exact HR235.out) | (with_reducible refine Kd.C_alloc ?_ _) | (with_reducible refine Kd.C_drewN ?_ _) | (with_reducible refine Kd.C_drew ?_) | exact HR235.out)) | (with_reducible refine Kd.C_alloc ?_ _) | (with_reducible refine Kd.C_drewN ?_ _) | (with_reducible refine Kd.C_drew ?_)))
                   (case aB => exact (bU_ HB))
                   (case aF => exact (fun k_ hk => ⟨Kd.fresh' (rl_ HO_4) k_ hk, Kd.freshB (kU_ BK226) k_ hk⟩))
                   (case aO => exact (by (with_reducible repeat (first | apply ra_ | apply rn_ | apply rd_)); first | exact rm_ HO231.out (fun _ hk => ⟨hk.1.2, hk.2⟩) | exact rm_ HO231.out (fun _ hk => by refine ⟨?_, ?_⟩ <;> (first | exact hk.2 | exact hk.2.1 | exact hk.2.2 | exact hk.1.2 | exact hk.1.2.1 | exact hk.1.2.2 | exact hk.1.1.2 | exact hk.1.1.2.1 | exact hk.1.1.2.2 | exact hk.1.1.1.2 | exact hk.1.1.1.2.1 | exact hk.1.1.1.2.2 | exact hk.1.1.1.1.2 | exact hk.1.1.1.1.2.1 | exact hk.1.1.1.1.2.2 | exact hk | exact hk.1 | exact hk.1.1 | exact hk.1.1.1 | exact hk.1.1.1.1 | exact hk.1.1.1.1.1))))
                   (case aS => exact (bZ_ HB))
                   (case aL => have := LMc20.out; omega)
                   intro v237 w30 ho hb hg hat
                   rw [← Ny236.out] at ho
                   replace BK226 := M_ (kg_ BK226 hg (Kd.R_away HO231.out (fun _ hk => hk.2))); replace HB := M_ (hb); replace HR235 := M_ ((show Kd.C k31 w30 Ao7 y232.length y232 from by rw [Ny232.out]; exact Kd.C_take (m := (x7_2 : Int).toNat) ((Kd.R_reads' (Kd.R_after (ok := (fun k_ => k_ ≠ gb226)) (rU_ HO_4.out) hg hat)).2.2) KL26.out)); replace HR248 := M_ ((show Kd.C k31 w30 A27 y245.length y245 from by rw [Ny245.out, KA27.out]; exact Kd.C_drop (m := (x7_2 : Int).toNat) (c := co7) ((Kd.R_reads' (Kd.R_after (ok := (fun k_ => k_ ≠ gb226)) (rU_ HO_4.out) hg hat)).2.2) KL27.out ((Kd.R_reads' (Kd.R_after (ok := (fun k_ => k_ ≠ gb226)) (rU_ HO_4.out) hg hat)).2.1))); replace HO_4 := M_ (Kd.R_after (ok := (fun k_ => k_ ≠ gb226)) (rU_ HO_4.out) hg hat); have HO238 := M_ (ho); clear HO231;clear ho hb hg hat;refine hK.out _ _ ⟨bc0_ BK226, bc1_ BK226, bc2_ BK226⟩ (fun hHeld => ?_);clear hK K;refine nM_ (some 33) ?_;refine one_ (i := 6) (N := some 35) #[T,T,T,T,T,T,T,F,T,T,T,F,F] rfl rfl (one_of HT_.out (by kernel_rfl)) (by decide) (fun K hK => ?_);refine ls_ k31 31 (N := 35) (([(⟨((rd_T31 l0 x10_1).f0), ((rd_T31 l0 x10_1).f1), ((rd_T31 l0 x10_1).f2)⟩ : S31)] : List (S31))) [.int .i64 ((rd_T31 l0 x10_1).f0), .int .i64 ((rd_T31 l0 x10_1).f1), .int .i64 ((rd_T31 l0 x10_1).f2)] ?hp ?_; (case hp => exact (Reps.c3 (show Kd.M k31 _ _ _ (⟨((rd_T31 l0 x10_1).f0), ((rd_T31 l0 x10_1).f1), ((rd_T31 l0 x10_1).f2)⟩ : S31) [.int .i64 ((rd_T31 l0 x10_1).f0), .int .i64 ((rd_T31 l0 x10_1).f1), .int .i64 ((rd_T31 l0 x10_1).f2)] from (k31_mkM _ _ _ (⟨((rd_T31 l0 x10_1).f0), ((rd_T31 l0 x10_1).f1), ((rd_T31 l0 x10_1).f2)⟩ : S31) )) (Reps.none _ _)));intro v240 w31 ho32 hb hg_ hnew_;clear hg_ hnew_;replace ho32 := rN_ Ny239 ho32;have HO241 := M_ (Kd.R_lower (Kd.R_newB (Kd.R_new' (Kd.R_new' ho32 (rl_ HO_4)) (rl_ HO238)) (kU_ BK226)) (bZ_ HB)); replace HO_4 := M_ (re_ HO_4 ho32 hb); replace HO238 := M_ (re_ HO238 ho32 hb); replace BK226 := M_ (kb_ BK226 hb); replace HR235 := M_ (Kd.C_below (by repeat (first | (with_reducible exact HR235.out) | (with_reducible refine Kd.C_alloc ?_ _) | (with_reducible refine Kd.C_drewN ?_ _) | (with_reducible refine Kd.C_drew ?_) | exact HR235.out)) hb); replace HR248 := M_ (Kd.C_below (by repeat (first | (with_reducible exact HR248.out) | (with_reducible refine Kd.C_alloc ?_ _) | (with_reducible refine Kd.C_drewN ?_ _) | (with_reducible refine Kd.C_drew ?_) | exact HR248.out)) hb); replace HB := M_ (bS_ HB hb);clear hb ho32;refine hK.out _ _ ⟨bc0_ BK226, bc1_ BK226, bc2_ BK226⟩ (fun hHeld => ?_);clear hK K;refine nM_ (some 35) ?_;exact norm_ (by simp only [putAll, Act.put, la_, lb_, lc_]) (hCont (v230, v237, v240) _ ⟨hHeld, (rU_ (rm_ HO238.out (fun _ hk => ⟨hk.2, ⟨hk.1.1, hk.1.2⟩⟩))), (rU_ (rm_ HO241.out (fun _ hk => ⟨hk.1.2, ⟨hk.1.1.2, hk.2⟩⟩))), (rU_ (rm_ HO_4.out (fun _ hk => ⟨hk.1.2, ⟨hk.2, hk.1.1⟩⟩))), (kU_ BK226), (bU_ HB)⟩)
                  ·skip
                   refine ls_ k31 31 (N := 35) (([(⟨((rd_T31 l0 x10_1).f0), ((rd_T31 l0 x10_1).f1), ((rd_T31 l0 x10_1).f2)⟩ : S31)] : List (S31))) [.int .i64 ((rd_T31 l0 x10_1).f0), .int .i64 ((rd_T31 l0 x10_1).f1), .int .i64 ((rd_T31 l0 x10_1).f2)] ?hp ?_; (case hp => exact (Reps.c3 (show Kd.M k31 _ _ _ (⟨((rd_T31 l0 x10_1).f0), ((rd_T31 l0 x10_1).f1), ((rd_T31 l0 x10_1).f2)⟩ : S31) [.int .i64 ((rd_T31 l0 x10_1).f0), .int .i64 ((rd_T31 l0 x10_1).f1), .int .i64 ((rd_T31 l0 x10_1).f2)] from (k31_mkM _ _ _ (⟨((rd_T31 l0 x10_1).f0), ((rd_T31 l0 x10_1).f1), ((rd_T31 l0 x10_1).f2)⟩ : S31) )) (Reps.none _ _)));intro v240 w30 ho31 hb hg_ hnew_;clear hg_ hnew_;replace ho31 := rN_ Ny239 ho31;have HO241 := M_ (Kd.R_lower (Kd.R_newB (Kd.R_new' (Kd.R_new' ho31 (rl_ HO_4)) (rl_ HO231)) (kU_ BK226)) (bZ_ HB)); replace HO_4 := M_ (re_ HO_4 ho31 hb); replace HO231 := M_ (re_ HO231 ho31 hb); replace BK226 := M_ (kb_ BK226 hb); replace HR235 := M_ (Kd.C_below (by repeat (first | (with_reducible exact HR235.out) | (with_reducible refine Kd.C_alloc ?_ _) | (with_reducible refine Kd.C_drewN ?_ _) | (with_reducible refine Kd.C_drew ?_) | exact HR235.out)) hb); replace HR248 := M_ (Kd.C_below (by repeat (first | (with_reducible exact HR248.out) | (with_reducible refine Kd.C_alloc ?_ _) | (with_reducible refine Kd.C_drewN ?_ _) | (with_reducible refine Kd.C_drew ?_) | exact HR248.out)) hb); replace HB := M_ (bS_ HB hb);clear hb ho31;refine hK.out _ _ ⟨bc0_ BK226, bc1_ BK226, bc2_ BK226⟩ (fun hHeld => ?_);clear hK K;refine nM_ (some 35) ?_;refine one_ (i := 4) (N := some 33) #[T,T,T,T,T,T,T,F,T,T,T,F,F] rfl rfl (one_of HT_.out (by kernel_rfl)) (by decide) (fun K hK => ?_);refine Kd.R_append_rows_step k31 (w0 := w) w.heap.size (by rfl) (.tmp 29) (.tmp 32) 24 31 (.agg #[(.int .i64 0), (.int .i64 0), (.int .i64 0)]) 24 rfl Tryz.underlying24 info31 rfl (by decide) (by omega) v230 y229 y232 _ _ _ (fun k_ => some k_ ≠ (.slice Ao7 x4_1.length co7 : Value).ownBlock ∧ some k_ ≠ (v240 : Value).ownBlock ∧ k_ ≠ gb226) (fun _ => False) rfl rfl ?aO ?aR (fun _ _ h => h) (fun _ h => h.elim) ?aF ?aB ?aS ?aL ?_
                   (case aR => repeat (first | exact (by repeat (first | (with_reducible exact HR235.out) | (with_reducible refine Kd.C_alloc ?_ _) | (with_reducible refine Kd.C_drewN ?_ _) | (with_reducible refine Kd.C_drew ?_) | exact HR235.out)) | (with_reducible refine Kd.C_alloc ?_ _) | (with_reducible refine Kd.C_drewN ?_ _) | (with_reducible refine Kd.C_drew ?_)))
                   (case aB => exact (bU_ HB))
                   (case aF => exact (fun k_ hk => ⟨Kd.fresh' (rl_ HO_4) k_ hk, Kd.fresh' (rl_ HO241) k_ hk, Kd.freshB (kU_ BK226) k_ hk⟩))
                   (case aO => exact (rU_ (rm_ HO231.out (fun _ hk => ⟨hk.1.1.2, ⟨hk.2, hk.1.2⟩⟩))))
                   (case aS => exact (bZ_ HB))
                   (case aL => have := LMc20.out; omega)
                   intro v237 w32 ho hb hg hat
                   rw [← Ny236.out] at ho
                   replace BK226 := M_ (kg_ BK226 hg (Kd.R_away HO231.out (fun _ hk => hk.1.2))); replace HO241 := M_ (Kd.R_after (ok := (fun k_ => some k_ ≠ (.slice Ao7 x4_1.length co7 : Value).ownBlock ∧ k_ ≠ gb226)) (rU_ (rm_ HO241.out (fun _ hk => ⟨⟨hk.1.1.2, hk.2⟩, hk.1.2⟩))) hg hat); replace HB := M_ (hb); replace HR235 := M_ ((show Kd.C k31 w32 Ao7 y232.length y232 from by rw [Ny232.out]; exact Kd.C_take (m := (x7_2 : Int).toNat) ((Kd.R_reads' (Kd.R_after (ok := (fun k_ => some k_ ≠ (v240 : Value).ownBlock ∧ k_ ≠ gb226)) (rU_ (rm_ HO_4.out (fun _ hk => ⟨⟨hk.2, hk.1.1⟩, hk.1.2⟩))) hg hat)).2.2) KL26.out)); replace HR248 := M_ ((show Kd.C k31 w32 A27 y245.length y245 from by rw [Ny245.out, KA27.out]; exact Kd.C_drop (m := (x7_2 : Int).toNat) (c := co7) ((Kd.R_reads' (Kd.R_after (ok := (fun k_ => some k_ ≠ (v240 : Value).ownBlock ∧ k_ ≠ gb226)) (rU_ (rm_ HO_4.out (fun _ hk => ⟨⟨hk.2, hk.1.1⟩, hk.1.2⟩))) hg hat)).2.2) KL27.out ((Kd.R_reads' (Kd.R_after (ok := (fun k_ => some k_ ≠ (v240 : Value).ownBlock ∧ k_ ≠ gb226)) (rU_ (rm_ HO_4.out (fun _ hk => ⟨⟨hk.2, hk.1.1⟩, hk.1.2⟩))) hg hat)).2.1))); replace HO_4 := M_ (Kd.R_after (ok := (fun k_ => some k_ ≠ (v240 : Value).ownBlock ∧ k_ ≠ gb226)) (rU_ (rm_ HO_4.out (fun _ hk => ⟨⟨hk.2, hk.1.1⟩, hk.1.2⟩))) hg hat); have HO238 := M_ (ho); clear HO231;clear ho hb hg hat;refine hK.out _ _ ⟨bc0_ BK226, bc1_ BK226, bc2_ BK226⟩ (fun hHeld => ?_);clear hK K;refine nM_ (some 33) ?_;exact norm_ (by simp only [putAll, Act.put, la_, lb_, lc_]) (hCont (v230, v237, v240) _ ⟨hHeld, (rU_ (rm_ HO238.out (fun _ hk => ⟨hk.2.1, ⟨hk.1, hk.2.2⟩⟩))), (rU_ (rm_ HO241.out (fun _ hk => ⟨hk.2, ⟨hk.1.1, hk.1.2⟩⟩))), (rU_ (rm_ HO_4.out (fun _ hk => ⟨hk.2, ⟨hk.1.1, hk.1.2⟩⟩))), (kU_ BK226), (bU_ HB)⟩)
                 ·skip
                  refine ls_ k31 31 (N := 35) (([(⟨((rd_T31 l0 x10_1).f0), ((rd_T31 l0 x10_1).f1), ((rd_T31 l0 x10_1).f2)⟩ : S31)] : List (S31))) [.int .i64 ((rd_T31 l0 x10_1).f0), .int .i64 ((rd_T31 l0 x10_1).f1), .int .i64 ((rd_T31 l0 x10_1).f2)] ?hp ?_; (case hp => exact (Reps.c3 (show Kd.M k31 _ _ _ (⟨((rd_T31 l0 x10_1).f0), ((rd_T31 l0 x10_1).f1), ((rd_T31 l0 x10_1).f2)⟩ : S31) [.int .i64 ((rd_T31 l0 x10_1).f0), .int .i64 ((rd_T31 l0 x10_1).f1), .int .i64 ((rd_T31 l0 x10_1).f2)] from (k31_mkM _ _ _ (⟨((rd_T31 l0 x10_1).f0), ((rd_T31 l0 x10_1).f1), ((rd_T31 l0 x10_1).f2)⟩ : S31) )) (Reps.none _ _)));intro v240 w28 ho29 hb hg_ hnew_;clear hg_ hnew_;replace ho29 := rN_ Ny239 ho29;have HO241 := M_ (Kd.R_lower (Kd.R_newB (Kd.R_new' ho29 (rl_ HO_4)) (kU_ BK226)) (bZ_ HB)); replace HO_4 := M_ (re_ HO_4 ho29 hb); replace BK226 := M_ (kb_ BK226 hb); replace HR235 := M_ (Kd.C_below (by repeat (first | (with_reducible exact HR235.out) | (with_reducible refine Kd.C_alloc ?_ _) | (with_reducible refine Kd.C_drewN ?_ _) | (with_reducible refine Kd.C_drew ?_) | exact HR235.out)) hb); replace HR248 := M_ (Kd.C_below (by repeat (first | (with_reducible exact HR248.out) | (with_reducible refine Kd.C_alloc ?_ _) | (with_reducible refine Kd.C_drewN ?_ _) | (with_reducible refine Kd.C_drew ?_) | exact HR248.out)) hb); replace HB := M_ (bS_ HB hb);clear hb ho29;refine hK.out _ _ ⟨bc0_ BK226, bc1_ BK226, bc2_ BK226⟩ (fun hHeld => ?_);clear hK K;refine nM_ (some 35) ?_;refine one_ (i := 0) (N := some 29) #[T,T,T,T,F,T,T,F,T,T,T,F,F] rfl rfl (one_of HT_.out (by kernel_rfl)) (by decide) (fun K hK => ?_);refine ls_ k31 31 (N := 29) (([] : List (S31))) [] (Reps.none _ _) ?_;intro v230 w30 ho31 hb hg_ hnew_;clear hg_ hnew_;replace ho31 := rN_ Ny229 ho31;have HO231 := M_ (Kd.R_lower (Kd.R_newB (Kd.R_new' (Kd.R_new' ho31 (rl_ HO_4)) (rl_ HO241)) (kU_ BK226)) (bZ_ HB)); replace HO_4 := M_ (re_ HO_4 ho31 hb); replace HO241 := M_ (re_ HO241 ho31 hb); replace BK226 := M_ (kb_ BK226 hb); replace HR235 := M_ (Kd.C_below (by repeat (first | (with_reducible exact HR235.out) | (with_reducible refine Kd.C_alloc ?_ _) | (with_reducible refine Kd.C_drewN ?_ _) | (with_reducible refine Kd.C_drew ?_) | exact HR235.out)) hb); replace HR248 := M_ (Kd.C_below (by repeat (first | (with_reducible exact HR248.out) | (with_reducible refine Kd.C_alloc ?_ _) | (with_reducible refine Kd.C_drewN ?_ _) | (with_reducible refine Kd.C_drew ?_) | exact HR248.out)) hb); replace HB := M_ (bS_ HB hb);clear hb ho31;refine hK.out _ _ ⟨bc0_ BK226, bc1_ BK226, bc2_ BK226⟩ (fun hHeld => ?_);clear hK K;refine nM_ (some 29) ?_;refine one_ (i := 4) (N := some 33) #[T,T,T,T,T,T,T,F,T,T,T,F,F] rfl rfl (one_of HT_.out (by kernel_rfl)) (by decide) (fun K hK => ?_);refine Kd.R_append_rows_step k31 (w0 := w) w.heap.size (by rfl) (.tmp 29) (.tmp 32) 24 31 (.agg #[(.int .i64 0), (.int .i64 0), (.int .i64 0)]) 24 rfl Tryz.underlying24 info31 rfl (by decide) (by omega) v230 y229 y232 _ _ _ (fun k_ => some k_ ≠ (.slice Ao7 x4_1.length co7 : Value).ownBlock ∧ some k_ ≠ (v240 : Value).ownBlock ∧ k_ ≠ gb226) (fun _ => False) rfl rfl ?aO ?aR (fun _ _ h => h) (fun _ h => h.elim) ?aF ?aB ?aS ?aL ?_
                  (case aR => repeat (first | exact (by repeat (first | (with_reducible exact HR235.out) | (with_reducible refine Kd.C_alloc ?_ _) | (with_reducible refine Kd.C_drewN ?_ _) | (with_reducible refine Kd.C_drew ?_) | exact HR235.out)) | (with_reducible refine Kd.C_alloc ?_ _) | (with_reducible refine Kd.C_drewN ?_ _) | (with_reducible refine Kd.C_drew ?_)))
                  (case aB => exact (bU_ HB))
                  (case aF => exact (fun k_ hk => ⟨Kd.fresh' (rl_ HO_4) k_ hk, Kd.fresh' (rl_ HO241) k_ hk, Kd.freshB (kU_ BK226) k_ hk⟩))
                  (case aO => exact (rU_ (rm_ HO231.out (fun _ hk => ⟨hk.1.1.2, ⟨hk.1.2, hk.2⟩⟩))))
                  (case aS => exact (bZ_ HB))
                  (case aL => have := LMc20.out; omega)
                  intro v237 w32 ho hb hg hat
                  rw [← Ny236.out] at ho
                  replace BK226 := M_ (kg_ BK226 hg (Kd.R_away HO231.out (fun _ hk => hk.2))); replace HO241 := M_ (Kd.R_after (ok := (fun k_ => some k_ ≠ (.slice Ao7 x4_1.length co7 : Value).ownBlock ∧ k_ ≠ gb226)) (rU_ (rm_ HO241.out (fun _ hk => ⟨⟨hk.1.1.2, hk.1.2⟩, hk.2⟩))) hg hat); replace HB := M_ (hb); replace HR235 := M_ ((show Kd.C k31 w32 Ao7 y232.length y232 from by rw [Ny232.out]; exact Kd.C_take (m := (x7_2 : Int).toNat) ((Kd.R_reads' (Kd.R_after (ok := (fun k_ => some k_ ≠ (v240 : Value).ownBlock ∧ k_ ≠ gb226)) (rU_ (rm_ HO_4.out (fun _ hk => ⟨⟨hk.1.2, hk.1.1⟩, hk.2⟩))) hg hat)).2.2) KL26.out)); replace HR248 := M_ ((show Kd.C k31 w32 A27 y245.length y245 from by rw [Ny245.out, KA27.out]; exact Kd.C_drop (m := (x7_2 : Int).toNat) (c := co7) ((Kd.R_reads' (Kd.R_after (ok := (fun k_ => some k_ ≠ (v240 : Value).ownBlock ∧ k_ ≠ gb226)) (rU_ (rm_ HO_4.out (fun _ hk => ⟨⟨hk.1.2, hk.1.1⟩, hk.2⟩))) hg hat)).2.2) KL27.out ((Kd.R_reads' (Kd.R_after (ok := (fun k_ => some k_ ≠ (v240 : Value).ownBlock ∧ k_ ≠ gb226)) (rU_ (rm_ HO_4.out (fun _ hk => ⟨⟨hk.1.2, hk.1.1⟩, hk.2⟩))) hg hat)).2.1))); replace HO_4 := M_ (Kd.R_after (ok := (fun k_ => some k_ ≠ (v240 : Value).ownBlock ∧ k_ ≠ gb226)) (rU_ (rm_ HO_4.out (fun _ hk => ⟨⟨hk.1.2, hk.1.1⟩, hk.2⟩))) hg hat); have HO238 := M_ (ho); clear HO231;clear ho hb hg hat;refine hK.out _ _ ⟨bc0_ BK226, bc1_ BK226, bc2_ BK226⟩ (fun hHeld => ?_);clear hK K;refine nM_ (some 33) ?_;exact norm_ (by simp only [putAll, Act.put, la_, lb_, lc_]) (hCont (v230, v237, v240) _ ⟨hHeld, (rU_ (rm_ HO238.out (fun _ hk => ⟨hk.2.1, ⟨hk.1, hk.2.2⟩⟩))), (rU_ (rm_ HO241.out (fun _ hk => ⟨hk.2, ⟨hk.1.1, hk.1.2⟩⟩))), (rU_ (rm_ HO_4.out (fun _ hk => ⟨hk.2, ⟨hk.1.1, hk.1.2⟩⟩))), (kU_ BK226), (bU_ HB)⟩)
                rintro ⟨v230, v237, v240⟩ w33 ⟨hS_, h0_, h1_, h2_, h3_, h4_⟩
                have n0_ : Aside0 (Kd.R k31 31 w33 w.heap.size (fun k_ => some k_ ≠ (v240 : Value).ownBlock ∧ some k_ ≠ (.slice Ao7 x4_1.length co7 : Value).ownBlock ∧ k_ ≠ gb226) v237 y236) := ⟨h0_⟩
                have n1_ : Aside0 (Kd.R k31 31 w33 w.heap.size (fun k_ => some k_ ≠ (v237 : Value).ownBlock ∧ some k_ ≠ (.slice Ao7 x4_1.length co7 : Value).ownBlock ∧ k_ ≠ gb226) v240 y239) := ⟨h1_⟩
                have n2_ : Aside0 (Kd.R k31 31 w33 w.heap.size (fun k_ => some k_ ≠ (v237 : Value).ownBlock ∧ some k_ ≠ (v240 : Value).ownBlock ∧ k_ ≠ gb226) (.slice Ao7 x4_1.length co7) x4_1) := ⟨h2_⟩
                have n3_ : Aside0 (w33.heap[gb226]? = some (.cells #[.int .i64 ((rd_T31 l0 x10_1).f0), .int .i64 ((rd_T31 l0 x10_1).f1), .int .i64 ((rd_T31 l0 x10_1).f2)] 31 (0, 0))) := ⟨h3_⟩
                have n4_ : Aside0 (Below w.heap.size w w33) := ⟨h4_⟩
                clear HO_4;clear BK226;clear HB;clear h0_ h1_ h2_ h3_ h4_;have HO238 := n0_;have HO241 := n1_;have HO_4 := n2_;have BK226 := n3_;have HB := n4_;clear n0_ n1_ n2_ n3_ n4_
                have hHeld : w33.cell? ⟨gb226, 0, none⟩ = some (.int .i64 ((rd_T31 l0 x10_1).f0)) ∧ w33.cell? ⟨gb226, 1, none⟩ = some (.int .i64 ((rd_T31 l0 x10_1).f1)) ∧ w33.cell? ⟨gb226, 2, none⟩ = some (.int .i64 ((rd_T31 l0 x10_1).f2)) := hS_
                obtain ⟨Ao35, co35, eo35⟩ := Kd.R_slice HO241.out
                (first | subst eo35 | (injection eo35 with f1_ f2_ f3_; have f4_ := f1_.symm; have f5_ := f3_.symm; clear f1_ f2_ f3_; subst f4_; subst f5_))
                refine norm_ (a' := ?_) ?_ ?_;rotate_left
                ·simp only [putAll, Act.put, la_, lb_, lc_]
                 rfl
                refine one_ (i := 7) (N := some 36) #[T,T,T,T,T,T,T,T,T,T,T,F,F] rfl rfl (one_of HT_.out (by kernel_rfl)) (by decide) (fun K hK => ?_);refine Kd.R_append_rows_step k31 (w0 := w) w.heap.size (by rfl) (.tmp 33) (.tmp 35) 24 31 (.agg #[(.int .i64 0), (.int .i64 0), (.int .i64 0)]) 24 rfl Tryz.underlying24 info31 rfl (by decide) (by omega) v237 y236 y239 _ _ _ (fun k_ => some k_ ≠ (.slice Ao7 x4_1.length co7 : Value).ownBlock ∧ some k_ ≠ (.slice Ao35 y239.length co35 : Value).ownBlock ∧ k_ ≠ gb226) (fun _ => False) rfl rfl ?aO ?aR (fun _ _ h => h) (fun _ h => h.elim) ?aF ?aB ?aS ?aL ?_
                (case aR => exact cU_ (Kd.R_reads' HO241.out).2.2)
                (case aB => exact (bU_ HB))
                (case aF => exact (fun k_ hk => ⟨Kd.fresh' (rl_ HO_4) k_ hk, Kd.fresh' (rl_ HO241) k_ hk, Kd.freshB (kU_ BK226) k_ hk⟩))
                (case aO => exact (rU_ (rm_ HO238.out (fun _ hk => ⟨hk.2.1, ⟨hk.1, hk.2.2⟩⟩))))
                (case aS => exact (bZ_ HB))
                (case aL => have := LMc21.out; omega)
                intro v243 w34 ho hb hg hat
                rw [← Ny242.out] at ho
                replace HO_4 := M_ (Kd.R_after (ok := (fun k_ => some k_ ≠ (.slice Ao35 y239.length co35 : Value).ownBlock ∧ k_ ≠ gb226)) (rU_ (rm_ HO_4.out (fun _ hk => ⟨⟨hk.2.1, hk.2.2⟩, hk.1⟩))) hg hat); replace BK226 := M_ (kg_ BK226 hg (Kd.R_away HO238.out (fun _ hk => hk.2.2))); replace HO241 := M_ (Kd.R_after (ok := (fun k_ => some k_ ≠ (.slice Ao7 x4_1.length co7 : Value).ownBlock ∧ k_ ≠ gb226)) (rU_ (rm_ HO241.out (fun _ hk => ⟨⟨hk.2.1, hk.2.2⟩, hk.1⟩))) hg hat); replace HB := M_ (hb); have HO244 := M_ (ho); clear HO238;clear ho hb hg hat;refine hK.out _ _ ⟨bc0_ BK226, bc1_ BK226, bc2_ BK226⟩ (fun hHeld => ?_);clear hK K;refine nM_ (some 36) ?_;refine one_ (i := 11) (N := some 40) #[T,T,T,T,T,T,T,T,T,T,T,T,F] rfl rfl (one_of HT_.out (by kernel_rfl)) (by decide) (fun K hK => ?_);refine Kd.R_append_rows_step k31 (w0 := w) w.heap.size (by rfl) (.tmp 36) (.tmp 39) 24 31 (.agg #[(.int .i64 0), (.int .i64 0), (.int .i64 0)]) 24 rfl Tryz.underlying24 info31 rfl (by decide) (by omega) v243 y242 y245 _ _ _ (fun k_ => some k_ ≠ (.slice Ao7 x4_1.length co7 : Value).ownBlock ∧ some k_ ≠ (.slice Ao35 y239.length co35 : Value).ownBlock ∧ k_ ≠ gb226) (fun _ => False) rfl rfl ?aO ?aR (fun _ _ h => h) (fun _ h => h.elim) ?aF ?aB ?aS ?aL ?_
                (case aR => exact cU_ (show Kd.C k31 _ A27 y245.length y245 from by rw [Ny245.out, KA27.out]; exact Kd.C_drop (m := (x7_2 : Int).toNat) (c := co7) ((Kd.R_reads' HO_4.out).2.2) KL27.out ((Kd.R_reads' HO_4.out).2.1)))
                (case aB => exact (bU_ HB))
                (case aF => exact (fun k_ hk => ⟨Kd.fresh' (rl_ HO_4) k_ hk, Kd.fresh' (rl_ HO241) k_ hk, Kd.freshB (kU_ BK226) k_ hk⟩))
                (case aO => exact (rU_ HO244.out))
                (case aS => exact (bZ_ HB))
                (case aL => have := LMc24.out; omega)
                intro v250 w36 ho hb hg hat
                rw [← Ny249.out] at ho
                replace HO_4 := M_ (Kd.R_after (ok := (fun k_ => some k_ ≠ (.slice Ao35 y239.length co35 : Value).ownBlock ∧ k_ ≠ gb226)) (rU_ HO_4.out) hg hat); replace BK226 := M_ (kg_ BK226 hg (Kd.R_away HO244.out (fun _ hk => hk.2.2))); replace HO241 := M_ (Kd.R_after (ok := (fun k_ => some k_ ≠ (.slice Ao7 x4_1.length co7 : Value).ownBlock ∧ k_ ≠ gb226)) (rU_ HO241.out) hg hat); replace HB := M_ (hb); have HO251 := M_ (ho); clear HO244;clear ho hb hg hat;refine hK.out _ _ ⟨bc0_ BK226, bc1_ BK226, bc2_ BK226⟩ (fun hHeld => ?_);clear hK K;refine nM_ (some 40) ?_;refine pR_ (i := 12) (N := some 4) #[T,T,T,T,T,T,T,T,T,T,T,T,T] ?_;refine done_ (done_of HT_.out (by kernel_rfl)) ?_
                try go_wp2
                go_roundg kj7
                case measure => have := HK1.out; have := HK2.out; have := HJ7.out; omega
                case rel => exact ⟨(y249), (wrap64 (x10_1 + 1)), eD_, H', ⟨by have := HK1.out; have := HK2.out; have := HJ7.out; omega⟩, ⟨by (with_reducible repeat (first | apply ra_ | apply rn_ | apply rd_)); exact rm_ HO251.out (fun _ hk => trivial)⟩, ⟨bU_ HB⟩⟩
               ·rw [if_neg c24] at H
                exact absurd H (by simp)
              ·rw [if_neg c21] at H
               exact absurd H (by simp)
             ·rw [if_neg c20] at H
              exact absurd H (by simp)
            ·rw [if_neg c19] at H
             exact absurd H (by simp)
           ·rw [if_neg c18] at H
            exact absurd H (by simp)
     ·rw [if_neg c4] at H
      exact absurd H (by simp)
    ·rw [if_neg c3] at H
     exact absurd H (by simp)
   ·rw [if_neg c2] at H
    have c2b0 : decide (x10_1 < (l0.length : Int)) = false := decide_eq_false c2
    clear c2;replace H := Option.bind_eq_some_iff.mp H;obtain ⟨t252, A370, H⟩ := H;(try dsimp only at H);have A37 := M_ A370;clear A370
    by_cases c38 : t252 = true
    focus
     subst c38
     rw [if_pos rfl] at H
    rotate_left
    focus
     replace c38 := Bool.eq_false_iff.mpr c38
     subst c38
     rw [if_neg (show ¬ (false = true) by decide)] at H
    rotate_left
    all_goals
     simp only [Option.some.injEq, Prod.mk.injEq] at H;obtain ⟨rfl, rfl⟩ := H;obtain ⟨Ao39, co39, eo39⟩ := Kd.R_slice HO_4.out;subst eo39
     go_wp2_with (first | ((with_reducible refine gc_ 49 ?_); refine gM_ (some 43) Tryz.func49 #[.slice Ao39 x4_1.length co39] ?_; (with_reducible refine (spec_ntGood.calls k1 _ _ x4_1 _ _ ?side1 ?side2 A37.out).mono ?_); (case side1 => exact cU_ (Kd.R_reads' HO_4.out).2.2); (case side2 => exact (Kd.R_reads' HO_4.out).2.1); rintro e w40 ⟨rfl, hb⟩; refine ⟨_, rfl, ?_⟩; replace HO_4 := M_ (rB_ HO_4 hb); replace HB := M_ (bS_ HB hb); clear hb))
     go_ret2
    ·exact ⟨_, eR_, rU_ HO_4.out, bU_ HB⟩
    ·exact ⟨_, eR_, by first | exact Kd.R_nil _ _ _ _ _ | exact Kd.N_nil _ _ _ _ _ | exact Kd.V_nil _ _ _ _ _ | exact Kd.Q_nil _ _ _ _ _ | exact Kd.S_nil _ _ _ _ _, bU_ HB⟩
end Go.Proofs.YtfpfjnmjekjnhaaGreatDoor.PFnScores
