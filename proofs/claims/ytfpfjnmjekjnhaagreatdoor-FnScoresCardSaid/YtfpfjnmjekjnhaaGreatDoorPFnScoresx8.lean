-- by wip/xprint.py, over the kit's printer
import Derived.Test.YtfpfjnmjekjnhaaGreatDoorPFnScoresx0
import Derived.Test.YtfpfjnmjekjnhaaGreatDoorPFnScoresx7
namespace Go.Proofs.YtfpfjnmjekjnhaaGreatDoor.PFnScores
open Go.RowKit Go.Proofs.YtfpfjnmjekjnhaaGreatDoorW.PrintWords Go.Proofs.YtfpfjnmjekjnhaaGreatDoorW.PrintLast Go.Proofs.YtfpfjnmjekjnhaaGreatDoorW.PrintMore
attribute [local go_sem] max2_int min2_int max_two min_two max_three min_three max_four min_four   -- for this text's walks alone
set_option linter.unusedVariables false
set_option linter.unusedSimpArgs false

mutual
def spec_ntGood.l0 : Nat → List (S31) → List (S31) → Int → Int → Option (Bool)
 | 0, _, _, _, _ => none
 | k + 1, x0, x7, x8, x9 => if x9 < x8 then (if 0 ≤ x9 then (if x9 < (x7.length : Int) then ((spec_ntNote.f ((rd_T31 x7 x9).f0) ((rd_T31 x7 x9).f1) ((rd_T31 x7 x9).f2)).bind fun t215 => (if t215 = true then (if x9 > 0 then (if 0 ≤ (wrap64 (x9 - 1)) then (if (wrap64 (x9 - 1)) < (x0.length : Int) then ((spec_ntBefore.f ((rd_T31 x0 (wrap64 (x9 - 1))).f0) ((rd_T31 x0 (wrap64 (x9 - 1))).f1) ((rd_T31 x0 (wrap64 (x9 - 1))).f2) ((rd_T31 x7 x9).f0) ((rd_T31 x7 x9).f1) ((rd_T31 x7 x9).f2)).bind fun t217 => (spec_ntGood.j1 k x0 x9 x7 x8 x9 (!t217) ((rd_T31 x7 x9).f0) ((rd_T31 x7 x9).f1) ((rd_T31 x7 x9).f2))) else (none)) else (none)) else (spec_ntGood.j1 k x0 x9 x7 x8 x9 false ((rd_T31 x7 x9).f0) ((rd_T31 x7 x9).f1) ((rd_T31 x7 x9).f2))) else (spec_ntGood.j1 k x0 x9 x7 x8 x9 true ((rd_T31 x7 x9).f0) ((rd_T31 x7 x9).f1) ((rd_T31 x7 x9).f2)))) else (none)) else (none)) else (some (decide ((x0.length : Int) ≤ 30)))
def spec_ntGood.j1 : Nat → List (S31) → Int → List (S31) → Int → Int → Bool → Int → Int → Int → Option (Bool)
 | 0, _, _, _, _, _, _, _, _, _ => none
 | k + 1, x0, x3, x7, x8, x9, x30, x215000, x215001, x215002 => if x30 = true then (some false) else (if 0 ≤ x3 then (if x3 ≤ (x0.length : Int) then ((some (x0.take (x3 : Int).toNat : List (S31))).bind fun y218 => (spec_ntGood.l1 k x0 x7 x8 x9 y218 (y218.length : Int) 0 x215000 x215001 x215002)) else (none)) else (none))
def spec_ntGood.l1 : Nat → List (S31) → List (S31) → Int → Int → List (S31) → Int → Int → Int → Int → Int → Option (Bool)
 | 0, _, _, _, _, _, _, _, _, _, _ => none
 | k + 1, x0, x7, x8, x9, x33, x34, x35, x215000, x215001, x215002 => if x35 < x34 then (if 0 ≤ x35 then (if x35 < (x33.length : Int) then ((spec_ntMeet.f x215000 x215001 x215002 ((rd_T31 x33 x35).f0) ((rd_T31 x33 x35).f1) ((rd_T31 x33 x35).f2)).bind fun t224 => (if t224 = true then (some false) else (spec_ntGood.l1 k x0 x7 x8 x9 x33 x34 (wrap64 (x35 + 1)) x215000 x215001 x215002))) else (none)) else (none)) else (spec_ntGood.l0 k x0 x7 x8 (wrap64 (x9 + 1)))
end
def spec_ntGood.f (k : Nat) (l0 : List (S31)) : Option (Bool) := spec_ntGood.l0 k l0 l0 (l0.length : Int) 0
theorem spec_ntGood.mono_l : ∀ k, (∀ y0 y1 y2 y3, LeO (spec_ntGood.l0 k y0 y1 y2 y3) (spec_ntGood.l0 (k + 1) y0 y1 y2 y3)) ∧ (∀ y0 y1 y2 y3 y4 y5 y6 y7 y8, LeO (spec_ntGood.j1 k y0 y1 y2 y3 y4 y5 y6 y7 y8) (spec_ntGood.j1 (k + 1) y0 y1 y2 y3 y4 y5 y6 y7 y8)) ∧ (∀ y0 y1 y2 y3 y4 y5 y6 y7 y8 y9, LeO (spec_ntGood.l1 k y0 y1 y2 y3 y4 y5 y6 y7 y8 y9) (spec_ntGood.l1 (k + 1) y0 y1 y2 y3 y4 y5 y6 y7 y8 y9))
 | 0 => ⟨fun _ _ _ _ r h => by simp [spec_ntGood.l0] at h, fun _ _ _ _ _ _ _ _ _ r h => by simp [spec_ntGood.j1] at h, fun _ _ _ _ _ _ _ _ _ _ r h => by simp [spec_ntGood.l1] at h⟩
 | k + 1 => by
  obtain ⟨ih0, ih1, ih2⟩ := spec_ntGood.mono_l k;refine ⟨?_, ?_, ?_⟩
  ·intro y0 y1 y2 y3
   unfold spec_ntGood.l0
   exact mo_
  ·intro y0 y1 y2 y3 y4 y5 y6 y7 y8
   unfold spec_ntGood.j1
   exact mo_
  ·intro y0 y1 y2 y3 y4 y5 y6 y7 y8 y9
   unfold spec_ntGood.l1
   exact mo_
theorem spec_ntGood.mono : ∀ a0 k, LeO (spec_ntGood.f k a0) (spec_ntGood.f (k + 1) a0) := by
 intro a0 k;obtain ⟨ih0, ih1, ih2⟩ := spec_ntGood.mono_l k
 unfold spec_ntGood.f
 exact mo_
def spec_ntGood.T4 : Bool × List (List Nat × List Nat) := (true, [([], []), ([0], [0]), ([1], [1]), ([2, 1], [2]), ([3], [3]), ([4, 3], [3, 4]), ([5, 3, 3], [3, 5]), ([6], [6]), ([6], [6]), ([8, 6], [6, 8]), ([7, 9, 6], [6, 7, 9]), ([10, 6], [6, 10]), ([6], [6]), ([11, 12, 6, 6], [6, 11, 12]), ([13, 6], [6, 13]), ([6, 14, 3], [3, 6, 14]), ([3, 15], [3, 15])])
def spec_ntGood.B4 : List Nat := [0, 1, 3, 7, 15, 31, 63, 127, 127, 383, 1023, 2047, 127, 8191, 16383, 32767, 65535]
theorem spec_ntGood.tab4 : rtab .any (opsOf Tryz.f49 4) = spec_ntGood.T4 := by kernel_rfl
theorem spec_ntGood.bits4 : waitsOk spec_ntGood.T4.2 spec_ntGood.B4 = true := by kernel_rfl
set_option maxHeartbeats 8000000 in
set_option maxRecDepth 100000 in
theorem spec_ntGood.calls (k : Nat) (A0 : Option Addr) (c0 : Nat) (l0 : List (S31)) (r : Bool) (w : World) (hr0 : Kd.C k31 w A0 l0.length l0) (hc0 : l0.length ≤ c0) (h : spec_ntGood.f k l0 = some r) :
  Calls Tryz.prog 49 #[.slice A0 l0.length c0] w fun e w' => e = .returned (.bool r) ∧ Below w.heap.size w w' := by
 have hu31 := Tryz.underlying31;have HR0 := M_ hr0;have HC0 := M_ hc0;clear hr0 hc0;have HB := M_ (Below.refl w.heap.size w)
 have H : (spec_ntGood.l0 k l0 l0 (l0.length : Int) 0) = some r := h
 clear h
 have H' := M_ H
 clear H
 go_enter Tryz.func49, Tryz.ntmps49
 go_wp2
 go_loopg [9] k (fun kq v9 w' => ∃ (x9_1 : Int), v9 = .int .i64 x9_1 ∧ Aside0 (spec_ntGood.l0 kq l0 l0 (l0.length : Int) x9_1 = some r) ∧ Aside0 (kq ≤ k) ∧ Aside0 (Below w.heap.size w w'))
 case atStart => exact ⟨(0), eD_, H', ⟨Nat.le_refl _⟩, ⟨bU_ HB⟩⟩
 case round =>
  clear H';obtain ⟨x9_1, rfl, HA, HK1, HB⟩ := hrel
  cases gk with
  | zero => exact absurd HA.out (by simp [spec_ntGood.l0])
  | succ k1 =>
   have H := HA.out;clear HA;simp only [spec_ntGood.l0] at H
   by_cases c2 : x9_1 < (l0.length : Int)
   ·rw [if_pos c2] at H
    have c2b0 : decide (x9_1 < (l0.length : Int)) = true := decide_eq_true c2
    clear c2
    by_cases c3 : 0 ≤ x9_1
    ·rw [if_pos c3] at H
     have c3b0 : decide (0 ≤ x9_1) = true := decide_eq_true c3
     clear c3
     by_cases c4 : x9_1 < (l0.length : Int)
     ·rw [if_pos c4] at H
      have c4b0 : decide (x9_1 < (l0.length : Int)) = true := decide_eq_true c4
      clear c4;have HC5 := M_ H;clear H
      have p213 : 0 ≤ (x9_1 : Int) := dT_
      have q213 : x9_1 < (l0.length : Int) := dT_
      obtain ⟨ad213, e213, hx213_0, hx213_1, hx213_2⟩ := at_T31 HR0.out x9_1 p213 q213;cases e213;replace hx213_0 := (HB.out.cell (World.block_lt_of_cell? w _ hx213_0)).trans hx213_0;replace hx213_1 := (HB.out.cell (World.block_lt_of_cell? w _ hx213_1)).trans hx213_1;replace hx213_2 := (HB.out.cell (World.block_lt_of_cell? w _ hx213_2)).trans hx213_2;replace p213 := eq_true p213;replace q213 := eq_true q213
      go_upto_region 4 with (first | ((with_reducible refine gate_dst (N := 4) rfl ?_); refine bx_ (N := 4) (cs := #[.int .i64 0, .int .i64 0, .int .i64 0]) (t := 31) ?_; intro gb214 hg w6 hbox hb; have BK214 := M_ (hbox); have GW214 := M_ (gw_ HB hg); have GE214 := M_ (gw_ HB hg); replace HB := M_ (bS_ HB hb); clear hb hbox hg; obtain ⟨hcz7_0, hcz7_1, hcz7_2, hfz7_0, hfz7_1, hfz7_2⟩ := bq3_ BK214))
      (try simp only [Act.put, la_, lb_, lc_])
      go_cut [30] (fun v30 wc => ∃ (kq : Nat) (x30_4 : Bool), v30 = .bool x30_4 ∧ Aside0 (spec_ntGood.j1 kq l0 x9_1 l0 (l0.length : Int) x9_1 x30_4 ((rd_T31 l0 x9_1).f0) ((rd_T31 l0 x9_1).f1) ((rd_T31 l0 x9_1).f2) = some r) ∧ Aside0 (kq ≤ k1) ∧ Aside0 (wc.heap[gb214]? = some (.cells #[.int .i64 ((rd_T31 l0 x9_1).f0), .int .i64 ((rd_T31 l0 x9_1).f1), .int .i64 ((rd_T31 l0 x9_1).f2)] 31 (0, 0))) ∧ Aside0 (Below w.heap.size w wc))
      case first =>
       have H := HC5.out;clear HC5;replace H := Option.bind_eq_some_iff.mp H;obtain ⟨t215, A80, H⟩ := H;(try dsimp only at H);have A8 := M_ A80;clear A80
       by_cases c9 : t215 = true
       ·subst c9
        rw [if_pos rfl] at H
        by_cases c10 : x9_1 > 0
        ·rw [if_pos c10] at H
         have c10b0 : decide (0 < x9_1) = true := decide_eq_true c10
         clear c10
         (first | rw [c10b0] | (simp only [i64_w, i32_w]; rw [c10b0]) | skip)
         obtain ⟨ji11, hji11⟩ : ∃ j_ : Int, (wrap64 (x9_1 - 1)) = j_ := ⟨_, rfl⟩
         replace H : (if 0 ≤ (ji11) then (if (ji11) < (l0.length : Int) then ((spec_ntBefore.f ((rd_T31 l0 (ji11)).f0) ((rd_T31 l0 (ji11)).f1) ((rd_T31 l0 (ji11)).f2) ((rd_T31 l0 x9_1).f0) ((rd_T31 l0 x9_1).f1) ((rd_T31 l0 x9_1).f2)).bind fun t217 => (spec_ntGood.j1 k1 l0 x9_1 l0 (l0.length : Int) x9_1 (!t217) ((rd_T31 l0 x9_1).f0) ((rd_T31 l0 x9_1).f1) ((rd_T31 l0 x9_1).f2))) else (none)) else (none)) = some r := by first | (rw [hji11] at H; exact H) | (simp only [hji11] at H ⊢; exact H)
         (try rw [hji11] at A8)
         have hji11w : (IntKind.i64.wrap (x9_1 - 1)) = ji11 := (i64_w _).trans hji11
         by_cases c12 : 0 ≤ (ji11)
         ·rw [if_pos c12] at H
          have c12b0 : decide (0 ≤ (ji11)) = true := decide_eq_true c12
          clear c12
          by_cases c13 : (ji11) < (l0.length : Int)
          ·rw [if_pos c13] at H
           have c13b0 : decide ((ji11) < (l0.length : Int)) = true := decide_eq_true c13
           clear c13;replace H := Option.bind_eq_some_iff.mp H;obtain ⟨t217, A140, H⟩ := H;(try dsimp only at H);have A14 := M_ A140;clear A140
           have H' := M_ H
           clear H
           try go_wp2
           have n0_ : Aside0 ((((w6.setCell ⟨gb214, 0, none⟩ (.int .i64 ((rd_T31 l0 x9_1).f0))).setCell ⟨gb214, 1, none⟩ (.int .i64 ((rd_T31 l0 x9_1).f1))).setCell ⟨gb214, 2, none⟩ (.int .i64 ((rd_T31 l0 x9_1).f2))).heap[gb214]? = some (.cells #[.int .i64 ((rd_T31 l0 x9_1).f0), .int .i64 ((rd_T31 l0 x9_1).f1), .int .i64 ((rd_T31 l0 x9_1).f2)] 31 (0, 0))) := ⟨by (with_reducible repeat (first | refine kn_ ?_ _ | refine kd_ ?_ | refine ka_ ?_ _)); refine blk_put (cs := #[.int .i64 ((rd_T31 l0 x9_1).f0), .int .i64 ((rd_T31 l0 x9_1).f1), .int .i64 0]) ?_ 2 _ rfl; (with_reducible repeat (first | refine kn_ ?_ _ | refine kd_ ?_ | refine ka_ ?_ _)); refine blk_put (cs := #[.int .i64 ((rd_T31 l0 x9_1).f0), .int .i64 0, .int .i64 0]) ?_ 1 _ rfl; (with_reducible repeat (first | refine kn_ ?_ _ | refine kd_ ?_ | refine ka_ ?_ _)); refine blk_put (cs := #[.int .i64 0, .int .i64 0, .int .i64 0]) ?_ 0 _ rfl; (with_reducible repeat (first | refine kn_ ?_ _ | refine kd_ ?_ | refine ka_ ?_ _)); exact BK214.out⟩
           have n1_ : Aside0 (Below w.heap.size w (((w6.setCell ⟨gb214, 0, none⟩ (.int .i64 ((rd_T31 l0 x9_1).f0))).setCell ⟨gb214, 1, none⟩ (.int .i64 ((rd_T31 l0 x9_1).f1))).setCell ⟨gb214, 2, none⟩ (.int .i64 ((rd_T31 l0 x9_1).f2)))) := ⟨bU_ HB⟩
           (try clear BK214)
           (try clear HB);generalize (((w6.setCell ⟨gb214, 0, none⟩ (.int .i64 ((rd_T31 l0 x9_1).f0))).setCell ⟨gb214, 1, none⟩ (.int .i64 ((rd_T31 l0 x9_1).f1))).setCell ⟨gb214, 2, none⟩ (.int .i64 ((rd_T31 l0 x9_1).f2))) = w15 at n0_ n1_ ⊢;have BK214 := n0_;have HB := n1_;clear n0_ n1_;replace BK214 := M_ (kd_ BK214.out); replace HB := M_ (b1_ HB.out)
           have p216 : 0 ≤ ((ji11) : Int) := dT_
           have q216 : (ji11) < (l0.length : Int) := dT_
           obtain ⟨ad216, e216, hx216_0, hx216_1, hx216_2⟩ := at_T31 HR0.out (ji11) p216 q216;have hw216_2 := hx216_2;have hw216_1 := hx216_1;have hw216_0 := hx216_0;obtain rfl : ad213 = ad216 := (by injection e216);replace hx216_0 := (HB.out.cell (World.block_lt_of_cell? w _ hx216_0)).trans hx216_0;replace hx216_1 := (HB.out.cell (World.block_lt_of_cell? w _ hx216_1)).trans hx216_1;replace hx216_2 := (HB.out.cell (World.block_lt_of_cell? w _ hx216_2)).trans hx216_2;replace p216 := eq_true p216;replace q216 := eq_true q216;refine start_ (n := 17) (S := fun w' => w'.cell? ⟨gb214, 0, none⟩ = some (.int .i64 ((rd_T31 l0 x9_1).f0)) ∧ w'.cell? ⟨gb214, 1, none⟩ = some (.int .i64 ((rd_T31 l0 x9_1).f1)) ∧ w'.cell? ⟨gb214, 2, none⟩ = some (.int .i64 ((rd_T31 l0 x9_1).f2)) ∧ w'.cell? (ad213.add (((ji11)).toNat * 3)) = some (.int .i64 ((rd_T31 l0 (ji11)).f0)) ∧ w'.cell? ⟨(ad213.add (((ji11)).toNat * 3)).block, (ad213.add (((ji11)).toNat * 3)).off + 1, none⟩ = some (.int .i64 ((rd_T31 l0 (ji11)).f1)) ∧ w'.cell? ⟨(ad213.add (((ji11)).toNat * 3)).block, (ad213.add (((ji11)).toNat * 3)).off + 2, none⟩ = some (.int .i64 ((rd_T31 l0 (ji11)).f2))) (ds := []) #[F,F,F,F,F,F,F,F,F,F,F,F,F,F,F,F,F] (by kernel_rfl) rfl rfl ⟨bc0_ BK214, bc1_ BK214, bc2_ BK214, ((HB.out.cell (World.block_lt_of_cell? w _ hw216_0)).trans hw216_0), ((HB.out.cell (World.block_lt_of_cell? w _ hw216_1)).trans hw216_1), ((HB.out.cell (World.block_lt_of_cell? w _ hw216_2)).trans hw216_2)⟩ (fun hHeld => ?_); refine with_tabW spec_ntGood.tab4 spec_ntGood.bits4 (fun HT_ HW_ => ?_);generalize w15.drew = w16 at BK214 HB hx216_0 hx216_1 hx216_2 hHeld ⊢;refine take_ (i := 0) (N := some 14) (v := ?_) (a' := ?_) #[T,F,F,F,F,F,F,F,F,F,F,F,F,F,F,F,F] rfl rfl (take_ofW HT_.out HW_.out (by kernel_rfl)) (fun _ _ _ h => h) (Or.inl ⟨by rfl, ?_⟩) hHeld ?_ ?_;rotate_left
           ·rintro w' ⟨s0, s1, s2, s3, s4, s5⟩
            go_simp;with_reducible rfl
           rotate_left
           ·simp only [Act.put, la_, lb_, lc_, i64_w, i32_w]
            rfl
           refine one_ (i := 1) (N := some 15) #[T,T,F,F,F,F,F,F,F,F,F,F,F,F,F,F,F] rfl rfl (one_of HT_.out (by kernel_rfl)) (by decide) (fun K hK => ?_);refine gS_ Tryz.func68 #[.agg #[.int .i64 ((rd_T31 l0 x9_1).f0), .int .i64 ((rd_T31 l0 x9_1).f1), .int .i64 ((rd_T31 l0 x9_1).f2)]] ?_
           with_reducible refine (spec_ntNote.calls ((rd_T31 l0 x9_1).f0) ((rd_T31 l0 x9_1).f1) ((rd_T31 l0 x9_1).f2) true _ A8.out).mono ?_
           rintro e w17 ⟨rfl, hb⟩;refine ⟨_, rfl, ?_⟩;replace BK214 := M_ (kb_ BK214 hb); replace HB := M_ (bS_ HB hb);clear hb;refine hK.out _ _ ⟨bc0_ BK214, bc1_ BK214, bc2_ BK214, ((HB.out.cell (World.block_lt_of_cell? w _ hw216_0)).trans hw216_0), ((HB.out.cell (World.block_lt_of_cell? w _ hw216_1)).trans hw216_1), ((HB.out.cell (World.block_lt_of_cell? w _ hw216_2)).trans hw216_2)⟩ (fun hHeld => ?_);clear hK K;refine nM_ (some 15) ?_;refine pR_ (i := 2) (N := some 16) #[T,T,T,F,F,F,F,F,F,F,F,F,F,F,F,F,F] ?_;refine pR_ (i := 3) (N := some 17) #[T,T,T,T,F,F,F,F,F,F,F,F,F,F,F,F,F] ?_;refine pR_ (i := 4) (N := some 18) #[T,T,T,T,T,F,F,F,F,F,F,F,F,F,F,F,F] ?_;refine pR_ (i := 5) (N := some 19) #[T,T,T,T,T,T,F,F,F,F,F,F,F,F,F,F,F] ?_;refine pR_ (i := 6) (N := some 20) #[T,T,T,T,T,T,T,F,F,F,F,F,F,F,F,F,F] ?_;refine pR_ (i := 7) (N := some 21) #[T,T,T,T,T,T,T,T,F,F,F,F,F,F,F,F,F] ?_;refine pR_ (i := 8) (N := some 22) #[T,T,T,T,T,T,T,T,T,F,F,F,F,F,F,F,F] ?_;refine pR_ (i := 9) (N := some 23) #[T,T,T,T,T,T,T,T,T,T,F,F,F,F,F,F,F] ?_;refine pR_ (i := 10) (N := some 24) #[T,T,T,T,T,T,T,T,T,T,T,F,F,F,F,F,F] ?_;refine take_ (i := 11) (N := some 25) (v := ?_) (a' := ?_) #[T,T,T,T,T,T,T,T,T,T,T,T,F,F,F,F,F] rfl rfl (take_ofW HT_.out HW_.out (by kernel_rfl)) (fun _ _ _ h => h) (Or.inl ⟨by rfl, ?_⟩) hHeld ?_ ?_;rotate_left
           ·rintro w' ⟨s0, s1, s2, s3, s4, s5⟩
            go_simp;with_reducible rfl
           rotate_left
           ·simp only [Act.put, la_, lb_, lc_, i64_w, i32_w]
            rfl
           refine take_ (i := 12) (N := some 26) (v := ?_) (a' := ?_) #[T,T,T,T,T,T,T,T,T,T,T,T,T,F,F,F,F] rfl rfl (take_ofW HT_.out HW_.out (by kernel_rfl)) (fun _ _ _ h => h) (Or.inl ⟨by rfl, ?_⟩) hHeld ?_ ?_;rotate_left
           ·rintro w' ⟨s0, s1, s2, s3, s4, s5⟩
            go_simp;with_reducible rfl
           rotate_left
           ·simp only [Act.put, la_, lb_, lc_, i64_w, i32_w]
            rfl
           refine one_ (i := 13) (N := some 27) #[T,T,T,T,T,T,T,T,T,T,T,T,T,T,F,F,F] rfl rfl (one_of HT_.out (by kernel_rfl)) (by decide) (fun K hK => ?_);refine goes_ Tryz.func80 (by kernel_rfl) rfl #[.agg #[.int .i64 ((rd_T31 l0 (ji11)).f0), .int .i64 ((rd_T31 l0 (ji11)).f1), .int .i64 ((rd_T31 l0 (ji11)).f2)], .agg #[.int .i64 ((rd_T31 l0 x9_1).f0), .int .i64 ((rd_T31 l0 x9_1).f1), .int .i64 ((rd_T31 l0 x9_1).f2)]] (by rfl) rfl rfl (by (try simp only [List.map_toArray, List.map_cons, List.map_nil]); first | done | (simp only [hji11]; rfl) | rfl | (simp only [List.length_drop, List.length_take]; rfl)) ?_
           with_reducible refine (spec_ntBefore.calls ((rd_T31 l0 (ji11)).f0) ((rd_T31 l0 (ji11)).f1) ((rd_T31 l0 (ji11)).f2) ((rd_T31 l0 x9_1).f0) ((rd_T31 l0 x9_1).f1) ((rd_T31 l0 x9_1).f2) t217 _ A14.out).mono ?_
           rintro e w18 ⟨rfl, hb⟩;refine ⟨_, rfl, ?_⟩;replace BK214 := M_ (kb_ BK214 hb); replace HB := M_ (bS_ HB hb);clear hb;refine hK.out _ _ ⟨bc0_ BK214, bc1_ BK214, bc2_ BK214, ((HB.out.cell (World.block_lt_of_cell? w _ hw216_0)).trans hw216_0), ((HB.out.cell (World.block_lt_of_cell? w _ hw216_1)).trans hw216_1), ((HB.out.cell (World.block_lt_of_cell? w _ hw216_2)).trans hw216_2)⟩ (fun hHeld => ?_);clear hK K;refine nM_ (some 27) ?_;refine pR_ (i := 14) (N := some 28) #[T,T,T,T,T,T,T,T,T,T,T,T,T,T,T,F,F] ?_;refine pR_ (i := 15) (N := some 29) #[T,T,T,T,T,T,T,T,T,T,T,T,T,T,T,T,F] ?_;refine pR_ (i := 16) (N := some 30) #[T,T,T,T,T,T,T,T,T,T,T,T,T,T,T,T,T] ?_;refine done_ (done_of HT_.out (by kernel_rfl)) ?_
           try go_wp2
           go_meet
           case rel => exact ⟨_, (!t217), eD_, H', ⟨by have := HK1.out; first | omega | exact Nat.le_refl _⟩, ⟨kU_ BK214⟩, ⟨bU_ HB⟩⟩
          ·rw [if_neg c13] at H
           exact absurd H (by simp)
         ·rw [if_neg c12] at H
          exact absurd H (by simp)
        ·rw [if_neg c10] at H
         have c10b0 : decide (0 < x9_1) = false := decide_eq_false c10
         clear c10
         (first | rw [c10b0] | (simp only [i64_w, i32_w]; rw [c10b0]) | skip)
         have H' := M_ H
         clear H
         try go_wp2
         have n0_ : Aside0 ((((w6.setCell ⟨gb214, 0, none⟩ (.int .i64 ((rd_T31 l0 x9_1).f0))).setCell ⟨gb214, 1, none⟩ (.int .i64 ((rd_T31 l0 x9_1).f1))).setCell ⟨gb214, 2, none⟩ (.int .i64 ((rd_T31 l0 x9_1).f2))).heap[gb214]? = some (.cells #[.int .i64 ((rd_T31 l0 x9_1).f0), .int .i64 ((rd_T31 l0 x9_1).f1), .int .i64 ((rd_T31 l0 x9_1).f2)] 31 (0, 0))) := ⟨by (with_reducible repeat (first | refine kn_ ?_ _ | refine kd_ ?_ | refine ka_ ?_ _)); refine blk_put (cs := #[.int .i64 ((rd_T31 l0 x9_1).f0), .int .i64 ((rd_T31 l0 x9_1).f1), .int .i64 0]) ?_ 2 _ rfl; (with_reducible repeat (first | refine kn_ ?_ _ | refine kd_ ?_ | refine ka_ ?_ _)); refine blk_put (cs := #[.int .i64 ((rd_T31 l0 x9_1).f0), .int .i64 0, .int .i64 0]) ?_ 1 _ rfl; (with_reducible repeat (first | refine kn_ ?_ _ | refine kd_ ?_ | refine ka_ ?_ _)); refine blk_put (cs := #[.int .i64 0, .int .i64 0, .int .i64 0]) ?_ 0 _ rfl; (with_reducible repeat (first | refine kn_ ?_ _ | refine kd_ ?_ | refine ka_ ?_ _)); exact BK214.out⟩
         have n1_ : Aside0 (Below w.heap.size w (((w6.setCell ⟨gb214, 0, none⟩ (.int .i64 ((rd_T31 l0 x9_1).f0))).setCell ⟨gb214, 1, none⟩ (.int .i64 ((rd_T31 l0 x9_1).f1))).setCell ⟨gb214, 2, none⟩ (.int .i64 ((rd_T31 l0 x9_1).f2)))) := ⟨bU_ HB⟩
         (try clear BK214)
         (try clear HB);generalize (((w6.setCell ⟨gb214, 0, none⟩ (.int .i64 ((rd_T31 l0 x9_1).f0))).setCell ⟨gb214, 1, none⟩ (.int .i64 ((rd_T31 l0 x9_1).f1))).setCell ⟨gb214, 2, none⟩ (.int .i64 ((rd_T31 l0 x9_1).f2))) = w19 at n0_ n1_ ⊢;have BK214 := n0_;have HB := n1_;clear n0_ n1_;replace BK214 := M_ (kd_ BK214.out); replace HB := M_ (b1_ HB.out);refine start_ (n := 17) (S := fun w' => w'.cell? ⟨gb214, 0, none⟩ = some (.int .i64 ((rd_T31 l0 x9_1).f0)) ∧ w'.cell? ⟨gb214, 1, none⟩ = some (.int .i64 ((rd_T31 l0 x9_1).f1)) ∧ w'.cell? ⟨gb214, 2, none⟩ = some (.int .i64 ((rd_T31 l0 x9_1).f2))) (ds := []) #[F,F,F,F,F,F,F,F,F,F,F,F,F,F,F,F,F] (by kernel_rfl) rfl rfl ⟨bc0_ BK214, bc1_ BK214, bc2_ BK214⟩ (fun hHeld => ?_); refine with_tabW spec_ntGood.tab4 spec_ntGood.bits4 (fun HT_ HW_ => ?_);generalize w19.drew = w20 at BK214 HB hHeld ⊢;refine take_ (i := 0) (N := some 14) (v := ?_) (a' := ?_) #[T,F,F,F,F,F,F,F,F,F,F,F,F,F,F,F,F] rfl rfl (take_ofW HT_.out HW_.out (by kernel_rfl)) (fun _ _ _ h => h) (Or.inl ⟨by rfl, ?_⟩) hHeld ?_ ?_;rotate_left
         ·rintro w' ⟨s0, s1, s2⟩
          go_simp;with_reducible rfl
         rotate_left
         ·simp only [Act.put, la_, lb_, lc_, i64_w, i32_w]
          rfl
         refine one_ (i := 1) (N := some 15) #[T,T,F,F,F,F,F,F,F,F,F,F,F,F,F,F,F] rfl rfl (one_of HT_.out (by kernel_rfl)) (by decide) (fun K hK => ?_);refine gS_ Tryz.func68 #[.agg #[.int .i64 ((rd_T31 l0 x9_1).f0), .int .i64 ((rd_T31 l0 x9_1).f1), .int .i64 ((rd_T31 l0 x9_1).f2)]] ?_
         with_reducible refine (spec_ntNote.calls ((rd_T31 l0 x9_1).f0) ((rd_T31 l0 x9_1).f1) ((rd_T31 l0 x9_1).f2) true _ A8.out).mono ?_
         rintro e w21 ⟨rfl, hb⟩;refine ⟨_, rfl, ?_⟩;replace BK214 := M_ (kb_ BK214 hb); replace HB := M_ (bS_ HB hb);clear hb;refine hK.out _ _ ⟨bc0_ BK214, bc1_ BK214, bc2_ BK214⟩ (fun hHeld => ?_);clear hK K;refine nM_ (some 15) ?_;refine pR_ (i := 2) (N := some 16) #[T,T,T,F,F,F,F,F,F,F,F,F,F,F,F,F,F] ?_;refine pR_ (i := 3) (N := some 17) #[T,T,T,T,F,F,F,F,F,F,F,F,F,F,F,F,F] ?_;refine pR_ (i := 4) (N := some 18) #[T,T,T,T,T,F,F,F,F,F,F,F,F,F,F,F,F] ?_;refine pR_ (i := 5) (N := some 19) #[T,T,T,T,T,T,F,F,F,F,F,F,F,F,F,F,F] ?_;refine pR_ (i := 6) (N := some 20) #[T,T,T,T,T,T,T,F,F,F,F,F,F,F,F,F,F] ?_;refine pV_ (i := 7) (N := some 21) #[T,T,T,T,T,T,T,T,F,F,F,F,F,F,F,F,F] ?_;refine pV_ (i := 8) (N := some 22) #[T,T,T,T,T,T,T,T,T,F,F,F,F,F,F,F,F] ?_;refine pV_ (i := 9) (N := some 23) #[T,T,T,T,T,T,T,T,T,T,F,F,F,F,F,F,F] ?_;refine pV_ (i := 10) (N := some 24) #[T,T,T,T,T,T,T,T,T,T,T,F,F,F,F,F,F] ?_;refine pV_ (i := 11) (N := some 25) #[T,T,T,T,T,T,T,T,T,T,T,T,F,F,F,F,F] ?_;refine pV_ (i := 12) (N := some 26) #[T,T,T,T,T,T,T,T,T,T,T,T,T,F,F,F,F] ?_;refine pV_ (i := 13) (N := some 27) #[T,T,T,T,T,T,T,T,T,T,T,T,T,T,F,F,F] ?_;refine pV_ (i := 14) (N := some 28) #[T,T,T,T,T,T,T,T,T,T,T,T,T,T,T,F,F] ?_;refine pR_ (i := 15) (N := some 29) #[T,T,T,T,T,T,T,T,T,T,T,T,T,T,T,T,F] ?_;refine pR_ (i := 16) (N := some 30) #[T,T,T,T,T,T,T,T,T,T,T,T,T,T,T,T,T] ?_;refine done_ (done_of HT_.out (by kernel_rfl)) ?_
         try go_wp2
         go_meet
         case rel => exact ⟨_, (false), eD_, H', ⟨by have := HK1.out; first | omega | exact Nat.le_refl _⟩, ⟨kU_ BK214⟩, ⟨bU_ HB⟩⟩
       ·replace c9 := Bool.eq_false_iff.mpr c9
        subst c9
        rw [if_neg (show ¬ (false = true) by decide)] at H
        have H' := M_ H
        clear H
        try go_wp2
        have n0_ : Aside0 ((((w6.setCell ⟨gb214, 0, none⟩ (.int .i64 ((rd_T31 l0 x9_1).f0))).setCell ⟨gb214, 1, none⟩ (.int .i64 ((rd_T31 l0 x9_1).f1))).setCell ⟨gb214, 2, none⟩ (.int .i64 ((rd_T31 l0 x9_1).f2))).heap[gb214]? = some (.cells #[.int .i64 ((rd_T31 l0 x9_1).f0), .int .i64 ((rd_T31 l0 x9_1).f1), .int .i64 ((rd_T31 l0 x9_1).f2)] 31 (0, 0))) := ⟨by (with_reducible repeat (first | refine kn_ ?_ _ | refine kd_ ?_ | refine ka_ ?_ _)); refine blk_put (cs := #[.int .i64 ((rd_T31 l0 x9_1).f0), .int .i64 ((rd_T31 l0 x9_1).f1), .int .i64 0]) ?_ 2 _ rfl; (with_reducible repeat (first | refine kn_ ?_ _ | refine kd_ ?_ | refine ka_ ?_ _)); refine blk_put (cs := #[.int .i64 ((rd_T31 l0 x9_1).f0), .int .i64 0, .int .i64 0]) ?_ 1 _ rfl; (with_reducible repeat (first | refine kn_ ?_ _ | refine kd_ ?_ | refine ka_ ?_ _)); refine blk_put (cs := #[.int .i64 0, .int .i64 0, .int .i64 0]) ?_ 0 _ rfl; (with_reducible repeat (first | refine kn_ ?_ _ | refine kd_ ?_ | refine ka_ ?_ _)); exact BK214.out⟩
        have n1_ : Aside0 (Below w.heap.size w (((w6.setCell ⟨gb214, 0, none⟩ (.int .i64 ((rd_T31 l0 x9_1).f0))).setCell ⟨gb214, 1, none⟩ (.int .i64 ((rd_T31 l0 x9_1).f1))).setCell ⟨gb214, 2, none⟩ (.int .i64 ((rd_T31 l0 x9_1).f2)))) := ⟨bU_ HB⟩
        (try clear BK214)
        (try clear HB);generalize (((w6.setCell ⟨gb214, 0, none⟩ (.int .i64 ((rd_T31 l0 x9_1).f0))).setCell ⟨gb214, 1, none⟩ (.int .i64 ((rd_T31 l0 x9_1).f1))).setCell ⟨gb214, 2, none⟩ (.int .i64 ((rd_T31 l0 x9_1).f2))) = w22 at n0_ n1_ ⊢;have BK214 := n0_;have HB := n1_;clear n0_ n1_;replace BK214 := M_ (kd_ BK214.out); replace HB := M_ (b1_ HB.out);refine start_ (n := 17) (S := fun w' => w'.cell? ⟨gb214, 0, none⟩ = some (.int .i64 ((rd_T31 l0 x9_1).f0)) ∧ w'.cell? ⟨gb214, 1, none⟩ = some (.int .i64 ((rd_T31 l0 x9_1).f1)) ∧ w'.cell? ⟨gb214, 2, none⟩ = some (.int .i64 ((rd_T31 l0 x9_1).f2))) (ds := []) #[F,F,F,F,F,F,F,F,F,F,F,F,F,F,F,F,F] (by kernel_rfl) rfl rfl ⟨bc0_ BK214, bc1_ BK214, bc2_ BK214⟩ (fun hHeld => ?_); refine with_tabW spec_ntGood.tab4 spec_ntGood.bits4 (fun HT_ HW_ => ?_);generalize w22.drew = w23 at BK214 HB hHeld ⊢;refine take_ (i := 0) (N := some 14) (v := ?_) (a' := ?_) #[T,F,F,F,F,F,F,F,F,F,F,F,F,F,F,F,F] rfl rfl (take_ofW HT_.out HW_.out (by kernel_rfl)) (fun _ _ _ h => h) (Or.inl ⟨by rfl, ?_⟩) hHeld ?_ ?_;rotate_left
        ·rintro w' ⟨s0, s1, s2⟩
         go_simp;with_reducible rfl
        rotate_left
        ·simp only [Act.put, la_, lb_, lc_, i64_w, i32_w]
         rfl
        refine one_ (i := 1) (N := some 15) #[T,T,F,F,F,F,F,F,F,F,F,F,F,F,F,F,F] rfl rfl (one_of HT_.out (by kernel_rfl)) (by decide) (fun K hK => ?_);refine gS_ Tryz.func68 #[.agg #[.int .i64 ((rd_T31 l0 x9_1).f0), .int .i64 ((rd_T31 l0 x9_1).f1), .int .i64 ((rd_T31 l0 x9_1).f2)]] ?_
        with_reducible refine (spec_ntNote.calls ((rd_T31 l0 x9_1).f0) ((rd_T31 l0 x9_1).f1) ((rd_T31 l0 x9_1).f2) false _ A8.out).mono ?_
        rintro e w24 ⟨rfl, hb⟩;refine ⟨_, rfl, ?_⟩;replace BK214 := M_ (kb_ BK214 hb); replace HB := M_ (bS_ HB hb);clear hb;refine hK.out _ _ ⟨bc0_ BK214, bc1_ BK214, bc2_ BK214⟩ (fun hHeld => ?_);clear hK K;refine nM_ (some 15) ?_;refine pR_ (i := 2) (N := some 16) #[T,T,T,F,F,F,F,F,F,F,F,F,F,F,F,F,F] ?_;refine pR_ (i := 3) (N := some 17) #[T,T,T,T,F,F,F,F,F,F,F,F,F,F,F,F,F] ?_;refine pV_ (i := 4) (N := some 18) #[T,T,T,T,T,F,F,F,F,F,F,F,F,F,F,F,F] ?_;refine pV_ (i := 5) (N := some 19) #[T,T,T,T,T,T,F,F,F,F,F,F,F,F,F,F,F] ?_;refine pV_ (i := 6) (N := some 20) #[T,T,T,T,T,T,T,F,F,F,F,F,F,F,F,F,F] ?_;refine pV_ (i := 7) (N := some 21) #[T,T,T,T,T,T,T,T,F,F,F,F,F,F,F,F,F] ?_;refine pV_ (i := 8) (N := some 22) #[T,T,T,T,T,T,T,T,T,F,F,F,F,F,F,F,F] ?_;refine pV_ (i := 9) (N := some 23) #[T,T,T,T,T,T,T,T,T,T,F,F,F,F,F,F,F] ?_;refine pV_ (i := 10) (N := some 24) #[T,T,T,T,T,T,T,T,T,T,T,F,F,F,F,F,F] ?_;refine pV_ (i := 11) (N := some 25) #[T,T,T,T,T,T,T,T,T,T,T,T,F,F,F,F,F] ?_;refine pV_ (i := 12) (N := some 26) #[T,T,T,T,T,T,T,T,T,T,T,T,T,F,F,F,F] ?_;refine pV_ (i := 13) (N := some 27) #[T,T,T,T,T,T,T,T,T,T,T,T,T,T,F,F,F] ?_;refine pV_ (i := 14) (N := some 28) #[T,T,T,T,T,T,T,T,T,T,T,T,T,T,T,F,F] ?_;refine pV_ (i := 15) (N := some 29) #[T,T,T,T,T,T,T,T,T,T,T,T,T,T,T,T,F] ?_;refine pR_ (i := 16) (N := some 30) #[T,T,T,T,T,T,T,T,T,T,T,T,T,T,T,T,T] ?_;refine done_ (done_of HT_.out (by kernel_rfl)) ?_
        try go_wp2
        go_meet
        case rel => exact ⟨_, (true), eD_, H', ⟨by have := HK1.out; first | omega | exact Nat.le_refl _⟩, ⟨kU_ BK214⟩, ⟨bU_ HB⟩⟩
      case rest =>
       clear HC5;obtain ⟨kq, x30_4, rfl, HA, HJ4, BK214, HB⟩ := hcut
       cases kq with
       | zero => exact absurd HA.out (by simp [spec_ntGood.j1])
       | succ kj4 =>
        have H := HA.out;clear HA;simp only [spec_ntGood.j1] at H
        by_cases c25 : x30_4 = true
        ·subst c25
         have H1 : (some false) = some r := by rw [if_pos rfl] at H; exact H
         clear H;have H := H1;clear H1;obtain rfl := Option.some.inj H
         go_wp2
         go_ret
         exact ⟨eR_, bU_ HB⟩
        ·replace c25 := Bool.eq_false_iff.mpr c25
         subst c25
         rw [if_neg (show ¬ (false = true) by decide)] at H
         by_cases c26 : 0 ≤ x9_1
         ·rw [if_pos c26] at H
          have c26b0 := eq_true c26
          have c26b1 : decide (0 ≤ x9_1) = true := decide_eq_true c26
          clear c26
          by_cases c27 : x9_1 ≤ (l0.length : Int)
          ·rw [if_pos c27] at H
           have c27b0 := eq_true c27
           have c27b1 : decide (x9_1 ≤ (l0.length : Int)) = true := decide_eq_true c27
           clear c27;obtain ⟨y218, hy218, H⟩ := ob_ H;(try dsimp only at H);have Ny218 := M_ hy218;clear hy218
           have H' := M_ H
           clear H
           have q28 : (x9_1 : Int) ≤ ((l0.length : Int) : Int) := dT_
           obtain ⟨i028, hi028, _, hsz28, _⟩ := info_parts info31
           have hroom28 : l0.length ≤ c0 := HC0.out
           have hC28 : Kd.C k31 _ (some ad213) l0.length l0 := HR0.out
           have hcut28 := cut_to (P := Tryz.prog) 24 31 .i64 Tryz.underlying24 hi028 (some ad213) l0.length c0 x9_1 (dT_) q28 hroom28;have hr28 := Kd.C_take (m := (x9_1 : Int).toNat) hC28 (by omega)
           have hy28 : y218.length = (x9_1 : Int).toNat := (by rw [Ny218.out, List.length_take]; omega)
           rw [← Ny218.out] at hr28
           rw [← hy28] at hcut28
           have HR221 := M_ hr28;have HC221 := M_ (show y218.length ≤ c0 from by omega);clear hr28 hC28 hroom28 hi028 hsz28;have KY28 := M_ hy28;clear hy28;replace q28 := eq_true q28
           go_wp2
           go_loopg [35] kj4 (fun kq v35 w' => ∃ (x35_3 : Int), v35 = .int .i64 x35_3 ∧ Aside0 (spec_ntGood.l1 kq l0 l0 (l0.length : Int) x9_1 y218 (y218.length : Int) x35_3 ((rd_T31 l0 x9_1).f0) ((rd_T31 l0 x9_1).f1) ((rd_T31 l0 x9_1).f2) = some r) ∧ Aside0 (kq ≤ kj4) ∧ Aside0 (w'.heap[gb214]? = some (.cells #[.int .i64 ((rd_T31 l0 x9_1).f0), .int .i64 ((rd_T31 l0 x9_1).f1), .int .i64 ((rd_T31 l0 x9_1).f2)] 31 (0, 0))) ∧ Aside0 (Below w.heap.size w w'))
           case atStart => exact ⟨(0), eD_, H', ⟨Nat.le_refl _⟩, ⟨kU_ BK214⟩, ⟨bU_ HB⟩⟩
           case round =>
            clear H';obtain ⟨x35_3, rfl, HA, HK3, BK214, HB⟩ := hrel
            cases gk with
            | zero => exact absurd HA.out (by simp [spec_ntGood.l1])
            | succ k3 =>
             have H := HA.out;clear HA;simp only [spec_ntGood.l1] at H
             by_cases c29 : x35_3 < (y218.length : Int)
             ·rw [if_pos c29] at H
              have c29b0 : decide (x35_3 < (y218.length : Int)) = true := decide_eq_true c29
              clear c29
              by_cases c30 : 0 ≤ x35_3
              ·rw [if_pos c30] at H
               have c30b0 : decide (0 ≤ x35_3) = true := decide_eq_true c30
               clear c30
               by_cases c31 : x35_3 < (y218.length : Int)
               ·rw [if_pos c31] at H
                have c31b0 : decide (x35_3 < (y218.length : Int)) = true := decide_eq_true c31
                clear c31;replace H := Option.bind_eq_some_iff.mp H;obtain ⟨t224, A320, H⟩ := H;(try dsimp only at H);have A32 := M_ A320;clear A320
                by_cases c33 : t224 = true
                focus
                 subst c33
                 have H1 : (some false) = some r := by rw [if_pos rfl] at H; exact H
                 clear H;have H := H1;clear H1;obtain rfl := Option.some.inj H
                rotate_left
                focus
                 replace c33 := Bool.eq_false_iff.mpr c33
                 subst c33
                 rw [if_neg (show ¬ (false = true) by decide)] at H
                 have H' := M_ H
                 clear H
                rotate_left
                all_goals
                 have p222 : 0 ≤ (x35_3 : Int) := dT_
                 have q222 : x35_3 < (y218.length : Int) := dT_
                 obtain ⟨ad222, e222, hx222_0, hx222_1, hx222_2⟩ := at_T31 HR221.out x35_3 p222 q222;obtain rfl : ad213 = ad222 := (by injection e222);replace hx222_0 := (HB.out.cell (World.block_lt_of_cell? w _ hx222_0)).trans hx222_0;replace hx222_1 := (HB.out.cell (World.block_lt_of_cell? w _ hx222_1)).trans hx222_1;replace hx222_2 := (HB.out.cell (World.block_lt_of_cell? w _ hx222_2)).trans hx222_2;replace p222 := eq_true p222;replace q222 := eq_true q222
                ·go_wp2_with (first | ((with_reducible refine gate_dst (N := 6) rfl ?_); refine bx_ (N := 6) (cs := #[.int .i64 0, .int .i64 0, .int .i64 0]) (t := 31) ?_; intro gb223 hg w34 hbox hb; have BK223 := M_ (hbox); have GW223 := M_ (gw_ HB hg); have GE223 := M_ (gw_ HB hg); replace HB := M_ (bS_ HB hb); have NB214_223 := M_ (nb_ BK214 hg); have NB223_214 := M_ ((by rw [hg]; exact Nat.ne_of_gt (blk_lt (kU_ BK214)) : gb223 ≠ gb214)); replace BK214 := M_ (kb_ BK214 hb); clear hb hbox hg; have hnb35 := NB223_214.out; have hnc35 := NB214_223.out; obtain ⟨hcz36_0, hcz36_1, hcz36_2, hfz36_0, hfz36_1, hfz36_2⟩ := bq3_ BK223; obtain ⟨hcz37_0, hcz37_1, hcz37_2, hfz37_0, hfz37_1, hfz37_2⟩ := bq3_ BK214) | ((with_reducible refine gc_ 81 ?_); refine gM_ (some 41) Tryz.func81 #[.agg #[.int .i64 ((rd_T31 l0 x9_1).f0), .int .i64 ((rd_T31 l0 x9_1).f1), .int .i64 ((rd_T31 l0 x9_1).f2)], .agg #[.int .i64 ((rd_T31 y218 x35_3).f0), .int .i64 ((rd_T31 y218 x35_3).f1), .int .i64 ((rd_T31 y218 x35_3).f2)]] ?_; (with_reducible refine (spec_ntMeet.calls ((rd_T31 l0 x9_1).f0) ((rd_T31 l0 x9_1).f1) ((rd_T31 l0 x9_1).f2) ((rd_T31 y218 x35_3).f0) ((rd_T31 y218 x35_3).f1) ((rd_T31 y218 x35_3).f2) true _ A32.out).mono ?_); rintro e w38 ⟨rfl, hb⟩; refine ⟨_, rfl, ?_⟩; replace BK214 := M_ (blk_below (g := gb214) (o := .cells #[.int .i64 ((rd_T31 l0 x9_1).f0), .int .i64 ((rd_T31 l0 x9_1).f1), .int .i64 ((rd_T31 l0 x9_1).f2)] 31 (0, 0)) (by (with_reducible repeat (first | refine kn_ ?_ _ | refine kd_ ?_ | refine ka_ ?_ _)); refine blk_far ?_ NB214_223.out _; (with_reducible repeat (first | refine kn_ ?_ _ | refine kd_ ?_ | refine ka_ ?_ _)); refine blk_far ?_ NB214_223.out _; (with_reducible repeat (first | refine kn_ ?_ _ | refine kd_ ?_ | refine ka_ ?_ _)); refine blk_far ?_ NB214_223.out _; (with_reducible repeat (first | refine kn_ ?_ _ | refine kd_ ?_ | refine ka_ ?_ _)); exact BK214.out) hb); replace BK223 := M_ (blk_below (g := gb223) (o := .cells #[.int .i64 ((rd_T31 y218 x35_3).f0), .int .i64 ((rd_T31 y218 x35_3).f1), .int .i64 ((rd_T31 y218 x35_3).f2)] 31 (0, 0)) (by (with_reducible repeat (first | refine kn_ ?_ _ | refine kd_ ?_ | refine ka_ ?_ _)); refine blk_put (cs := #[.int .i64 ((rd_T31 y218 x35_3).f0), .int .i64 ((rd_T31 y218 x35_3).f1), .int .i64 0]) ?_ 2 _ rfl; (with_reducible repeat (first | refine kn_ ?_ _ | refine kd_ ?_ | refine ka_ ?_ _)); refine blk_put (cs := #[.int .i64 ((rd_T31 y218 x35_3).f0), .int .i64 0, .int .i64 0]) ?_ 1 _ rfl; (with_reducible repeat (first | refine kn_ ?_ _ | refine kd_ ?_ | refine ka_ ?_ _)); refine blk_put (cs := #[.int .i64 0, .int .i64 0, .int .i64 0]) ?_ 0 _ rfl; (with_reducible repeat (first | refine kn_ ?_ _ | refine kd_ ?_ | refine ka_ ?_ _)); exact BK223.out) hb); replace HB := M_ (bS_ HB hb); clear hb))
                 go_ret
                 exact ⟨eR_, bU_ HB⟩
                ·go_wp2_with (first | ((with_reducible refine gate_dst (N := 6) rfl ?_); refine bx_ (N := 6) (cs := #[.int .i64 0, .int .i64 0, .int .i64 0]) (t := 31) ?_; intro gb223 hg w39 hbox hb; have BK223 := M_ (hbox); have GW223 := M_ (gw_ HB hg); have GE223 := M_ (gw_ HB hg); replace HB := M_ (bS_ HB hb); have NB214_223 := M_ (nb_ BK214 hg); have NB223_214 := M_ ((by rw [hg]; exact Nat.ne_of_gt (blk_lt (kU_ BK214)) : gb223 ≠ gb214)); replace BK214 := M_ (kb_ BK214 hb); clear hb hbox hg; have hnb40 := NB223_214.out; have hnc40 := NB214_223.out; obtain ⟨hcz41_0, hcz41_1, hcz41_2, hfz41_0, hfz41_1, hfz41_2⟩ := bq3_ BK223; obtain ⟨hcz42_0, hcz42_1, hcz42_2, hfz42_0, hfz42_1, hfz42_2⟩ := bq3_ BK214) | ((with_reducible refine gc_ 81 ?_); refine gM_ (some 41) Tryz.func81 #[.agg #[.int .i64 ((rd_T31 l0 x9_1).f0), .int .i64 ((rd_T31 l0 x9_1).f1), .int .i64 ((rd_T31 l0 x9_1).f2)], .agg #[.int .i64 ((rd_T31 y218 x35_3).f0), .int .i64 ((rd_T31 y218 x35_3).f1), .int .i64 ((rd_T31 y218 x35_3).f2)]] ?_; (with_reducible refine (spec_ntMeet.calls ((rd_T31 l0 x9_1).f0) ((rd_T31 l0 x9_1).f1) ((rd_T31 l0 x9_1).f2) ((rd_T31 y218 x35_3).f0) ((rd_T31 y218 x35_3).f1) ((rd_T31 y218 x35_3).f2) false _ A32.out).mono ?_); rintro e w43 ⟨rfl, hb⟩; refine ⟨_, rfl, ?_⟩; replace BK214 := M_ (blk_below (g := gb214) (o := .cells #[.int .i64 ((rd_T31 l0 x9_1).f0), .int .i64 ((rd_T31 l0 x9_1).f1), .int .i64 ((rd_T31 l0 x9_1).f2)] 31 (0, 0)) (by (with_reducible repeat (first | refine kn_ ?_ _ | refine kd_ ?_ | refine ka_ ?_ _)); refine blk_far ?_ NB214_223.out _; (with_reducible repeat (first | refine kn_ ?_ _ | refine kd_ ?_ | refine ka_ ?_ _)); refine blk_far ?_ NB214_223.out _; (with_reducible repeat (first | refine kn_ ?_ _ | refine kd_ ?_ | refine ka_ ?_ _)); refine blk_far ?_ NB214_223.out _; (with_reducible repeat (first | refine kn_ ?_ _ | refine kd_ ?_ | refine ka_ ?_ _)); exact BK214.out) hb); replace BK223 := M_ (blk_below (g := gb223) (o := .cells #[.int .i64 ((rd_T31 y218 x35_3).f0), .int .i64 ((rd_T31 y218 x35_3).f1), .int .i64 ((rd_T31 y218 x35_3).f2)] 31 (0, 0)) (by (with_reducible repeat (first | refine kn_ ?_ _ | refine kd_ ?_ | refine ka_ ?_ _)); refine blk_put (cs := #[.int .i64 ((rd_T31 y218 x35_3).f0), .int .i64 ((rd_T31 y218 x35_3).f1), .int .i64 0]) ?_ 2 _ rfl; (with_reducible repeat (first | refine kn_ ?_ _ | refine kd_ ?_ | refine ka_ ?_ _)); refine blk_put (cs := #[.int .i64 ((rd_T31 y218 x35_3).f0), .int .i64 0, .int .i64 0]) ?_ 1 _ rfl; (with_reducible repeat (first | refine kn_ ?_ _ | refine kd_ ?_ | refine ka_ ?_ _)); refine blk_put (cs := #[.int .i64 0, .int .i64 0, .int .i64 0]) ?_ 0 _ rfl; (with_reducible repeat (first | refine kn_ ?_ _ | refine kd_ ?_ | refine ka_ ?_ _)); exact BK223.out) hb); replace HB := M_ (bS_ HB hb); clear hb))
                 go_roundg k3
                 case measure => have := HK1.out; have := HJ4.out; have := HK3.out; omega
                 case rel => exact ⟨(wrap64 (x35_3 + 1)), eD_, H', ⟨by have := HK1.out; have := HJ4.out; have := HK3.out; omega⟩, ⟨kU_ BK214⟩, ⟨bU_ HB⟩⟩
               ·rw [if_neg c31] at H
                exact absurd H (by simp)
              ·rw [if_neg c30] at H
               exact absurd H (by simp)
             ·rw [if_neg c29] at H
              have c29b0 : decide (x35_3 < (y218.length : Int)) = false := decide_eq_false c29
              clear c29
              have H' := M_ H
              clear H
              go_wp2
              go_roundg k3
              case measure => have := HK1.out; have := HJ4.out; have := HK3.out; omega
              case rel => exact ⟨(wrap64 (x9_1 + 1)), eD_, H', ⟨by have := HK1.out; have := HJ4.out; have := HK3.out; omega⟩, ⟨bU_ HB⟩⟩
          ·rw [if_neg c27] at H
           exact absurd H (by simp)
         ·rw [if_neg c26] at H
          exact absurd H (by simp)
     ·rw [if_neg c4] at H
      exact absurd H (by simp)
    ·rw [if_neg c3] at H
     exact absurd H (by simp)
   ·rw [if_neg c2] at H
    have c2b0 : decide (x9_1 < (l0.length : Int)) = false := decide_eq_false c2
    clear c2;obtain rfl := Option.some.inj H
    go_wp2
    go_ret
    exact ⟨eR_, bU_ HB⟩
end Go.Proofs.YtfpfjnmjekjnhaaGreatDoor.PFnScores
