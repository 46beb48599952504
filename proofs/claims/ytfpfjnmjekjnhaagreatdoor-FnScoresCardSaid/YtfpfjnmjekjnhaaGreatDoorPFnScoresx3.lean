-- by wip/xprint.py, over the kit's printer
import Derived.Test.YtfpfjnmjekjnhaaGreatDoorPFnScoresx0
import Derived.Test.YtfpfjnmjekjnhaaGreatDoorPFnScoresx2
namespace Go.Proofs.YtfpfjnmjekjnhaaGreatDoor.PFnScores
open Go.RowKit Go.Proofs.YtfpfjnmjekjnhaaGreatDoorW.PrintWords Go.Proofs.YtfpfjnmjekjnhaaGreatDoorW.PrintLast Go.Proofs.YtfpfjnmjekjnhaaGreatDoorW.PrintMore
attribute [local go_sem] max2_int min2_int max_two min_two max_three min_three max_four min_four   -- for this text's walks alone
set_option linter.unusedVariables false
set_option linter.unusedSimpArgs false

mutual
def impl_IsScore.l0 : Nat → List (S31) → List (S31) → Int → Int → Option (Bool)
 | 0, _, _, _, _ => none
 | k + 1, x0, x10, x11, x12 => if x12 < x11 then (if 0 ≤ x12 then (if x12 < (x10.length : Int) then ((impl_IsNote.f ((rd_T31 x10 x12).f0) ((rd_T31 x10 x12).f1) ((rd_T31 x10 x12).f2)).bind fun t108 => (if t108 = true then (if x12 > 0 then (if 0 ≤ (wrap64 (x12 - 1)) then (if (wrap64 (x12 - 1)) < (x0.length : Int) then ((impl_noteLess.f ((rd_T31 x0 (wrap64 (x12 - 1))).f0) ((rd_T31 x0 (wrap64 (x12 - 1))).f1) ((rd_T31 x0 (wrap64 (x12 - 1))).f2) ((rd_T31 x10 x12).f0) ((rd_T31 x10 x12).f1) ((rd_T31 x10 x12).f2)).bind fun t110 => (impl_IsScore.j1 k x0 x12 x10 x11 x12 (!t110) ((rd_T31 x10 x12).f0) ((rd_T31 x10 x12).f1) ((rd_T31 x10 x12).f2))) else (none)) else (none)) else (impl_IsScore.j1 k x0 x12 x10 x11 x12 false ((rd_T31 x10 x12).f0) ((rd_T31 x10 x12).f1) ((rd_T31 x10 x12).f2))) else (impl_IsScore.j1 k x0 x12 x10 x11 x12 true ((rd_T31 x10 x12).f0) ((rd_T31 x10 x12).f1) ((rd_T31 x10 x12).f2)))) else (none)) else (none)) else (some true)
def impl_IsScore.j1 : Nat → List (S31) → Int → List (S31) → Int → Int → Bool → Int → Int → Int → Option (Bool)
 | 0, _, _, _, _, _, _, _, _, _ => none
 | k + 1, x0, x3, x10, x11, x12, x33, x108000, x108001, x108002 => if x33 = true then (some false) else (if 0 ≤ x3 then (if x3 ≤ (x0.length : Int) then ((some (x0.take (x3 : Int).toNat : List (S31))).bind fun y111 => (impl_IsScore.l1 k x0 x10 x11 x12 y111 (y111.length : Int) 0 x108000 x108001 x108002)) else (none)) else (none))
def impl_IsScore.l1 : Nat → List (S31) → List (S31) → Int → Int → List (S31) → Int → Int → Int → Int → Int → Option (Bool)
 | 0, _, _, _, _, _, _, _, _, _, _ => none
 | k + 1, x0, x10, x11, x12, x36, x37, x38, x108000, x108001, x108002 => if x38 < x37 then (if 0 ≤ x38 then (if x38 < (x36.length : Int) then (if ((rd_T31 x36 x38).f0) = x108000 then ((impl_noteEnd.f ((rd_T31 x36 x38).f0) ((rd_T31 x36 x38).f1) ((rd_T31 x36 x38).f2)).bind fun t117 => (if t117 > x108001 then (some false) else (impl_IsScore.l1 k x0 x10 x11 x12 x36 x37 (wrap64 (x38 + 1)) x108000 x108001 x108002))) else (impl_IsScore.l1 k x0 x10 x11 x12 x36 x37 (wrap64 (x38 + 1)) x108000 x108001 x108002)) else (none)) else (none)) else (impl_IsScore.l0 k x0 x10 x11 (wrap64 (x12 + 1)))
end
def impl_IsScore.f (k : Nat) (l0 : List (S31)) : Option (Bool) := if (l0.length : Int) > 30 then (some false) else (impl_IsScore.l0 k l0 l0 (l0.length : Int) 0)
theorem impl_IsScore.mono_l : ∀ k, (∀ y0 y1 y2 y3, LeO (impl_IsScore.l0 k y0 y1 y2 y3) (impl_IsScore.l0 (k + 1) y0 y1 y2 y3)) ∧ (∀ y0 y1 y2 y3 y4 y5 y6 y7 y8, LeO (impl_IsScore.j1 k y0 y1 y2 y3 y4 y5 y6 y7 y8) (impl_IsScore.j1 (k + 1) y0 y1 y2 y3 y4 y5 y6 y7 y8)) ∧ (∀ y0 y1 y2 y3 y4 y5 y6 y7 y8 y9, LeO (impl_IsScore.l1 k y0 y1 y2 y3 y4 y5 y6 y7 y8 y9) (impl_IsScore.l1 (k + 1) y0 y1 y2 y3 y4 y5 y6 y7 y8 y9))
 | 0 => ⟨fun _ _ _ _ r h => by simp [impl_IsScore.l0] at h, fun _ _ _ _ _ _ _ _ _ r h => by simp [impl_IsScore.j1] at h, fun _ _ _ _ _ _ _ _ _ _ r h => by simp [impl_IsScore.l1] at h⟩
 | k + 1 => by
  obtain ⟨ih0, ih1, ih2⟩ := impl_IsScore.mono_l k;refine ⟨?_, ?_, ?_⟩
  ·intro y0 y1 y2 y3
   unfold impl_IsScore.l0
   exact mo_
  ·intro y0 y1 y2 y3 y4 y5 y6 y7 y8
   unfold impl_IsScore.j1
   exact mo_
  ·intro y0 y1 y2 y3 y4 y5 y6 y7 y8 y9
   unfold impl_IsScore.l1
   exact mo_
theorem impl_IsScore.mono : ∀ a0 k, LeO (impl_IsScore.f k a0) (impl_IsScore.f (k + 1) a0) := by
 intro a0 k;obtain ⟨ih0, ih1, ih2⟩ := impl_IsScore.mono_l k
 unfold impl_IsScore.f
 exact mo_
def impl_IsScore.T6 : Bool × List (List Nat × List Nat) := (true, [([], []), ([0], [0]), ([1], [1]), ([2, 1], [2]), ([3], [3]), ([4, 3], [3, 4]), ([5, 3, 3], [3, 5]), ([6], [6]), ([6], [6]), ([8, 6], [6, 8]), ([7, 9, 6], [6, 7, 9]), ([10, 6], [6, 10]), ([6], [6]), ([11, 12, 6, 6], [6, 11, 12]), ([13, 6], [6, 13]), ([6, 14, 3], [3, 6, 14]), ([3, 15], [3, 15])])
def impl_IsScore.B6 : List Nat := [0, 1, 3, 7, 15, 31, 63, 127, 127, 383, 1023, 2047, 127, 8191, 16383, 32767, 65535]
theorem impl_IsScore.tab6 : rtab .any (opsOf Tryz.f10 6) = impl_IsScore.T6 := by kernel_rfl
theorem impl_IsScore.bits6 : waitsOk impl_IsScore.T6.2 impl_IsScore.B6 = true := by kernel_rfl
def impl_IsScore.T11 : Bool × List (List Nat × List Nat) := (true, [([], []), ([0], [0]), ([], []), ([2], [2]), ([1, 3], [1, 3]), ([4], [4]), ([5], [5]), ([6, 5, 5], [5, 6]), ([5], [5]), ([8, 5], [5, 8]), ([7, 9, 5], [5, 7, 9]), ([5, 10], [5, 10])])
def impl_IsScore.B11 : List Nat := [0, 1, 0, 4, 15, 31, 63, 127, 63, 319, 1023, 2047]
theorem impl_IsScore.tab11 : rtab .any (opsOf Tryz.f10 11) = impl_IsScore.T11 := by kernel_rfl
theorem impl_IsScore.bits11 : waitsOk impl_IsScore.T11.2 impl_IsScore.B11 = true := by kernel_rfl
set_option maxHeartbeats 8000000 in
set_option maxRecDepth 100000 in
theorem impl_IsScore.calls (k : Nat) (A0 : Option Addr) (c0 : Nat) (l0 : List (S31)) (r : Bool) (w : World) (hr0 : Kd.C k31 w A0 l0.length l0) (hc0 : l0.length ≤ c0) (h : impl_IsScore.f k l0 = some r) :
  Calls Tryz.prog 10 #[.slice A0 l0.length c0] w fun e w' => e = .returned (.bool r) ∧ Below w.heap.size w w' := by
 have hu31 := Tryz.underlying31;have HR0 := M_ hr0;have HC0 := M_ hc0;clear hr0 hc0;have HB := M_ (Below.refl w.heap.size w)
 have H : (if (l0.length : Int) > 30 then (some false) else (impl_IsScore.l0 k l0 l0 (l0.length : Int) 0)) = some r := h
 clear h
 by_cases c2 : (l0.length : Int) > 30
 ·rw [if_pos c2] at H
  have c2b0 : decide (30 < (l0.length : Int)) = true := decide_eq_true c2
  have c2b1 : decide (30 < l0.length) = true := decide_eq_true (by omega)
  clear c2;obtain rfl := Option.some.inj H
  go_enter Tryz.func10, Tryz.ntmps10
  go_wp2
  go_ret
  exact ⟨eR_, bU_ HB⟩
 ·rw [if_neg c2] at H
  have c2b0 : decide (30 < (l0.length : Int)) = false := decide_eq_false c2
  have c2b1 : decide (30 < l0.length) = false := decide_eq_false (by omega)
  clear c2
  have H' := M_ H
  clear H
  go_enter Tryz.func10, Tryz.ntmps10
  go_wp2
  go_loopg [12] k (fun kq v12 w' => ∃ (x12_1 : Int), v12 = .int .i64 x12_1 ∧ Aside0 (impl_IsScore.l0 kq l0 l0 (l0.length : Int) x12_1 = some r) ∧ Aside0 (kq ≤ k) ∧ Aside0 (Below w.heap.size w w'))
  case atStart => exact ⟨(0), eD_, H', ⟨Nat.le_refl _⟩, ⟨bU_ HB⟩⟩
  case round =>
   clear H';obtain ⟨x12_1, rfl, HA, HK1, HB⟩ := hrel
   cases gk with
   | zero => exact absurd HA.out (by simp [impl_IsScore.l0])
   | succ k1 =>
    have H := HA.out;clear HA;simp only [impl_IsScore.l0] at H
    by_cases c3 : x12_1 < (l0.length : Int)
    ·rw [if_pos c3] at H
     have c3b0 : decide (x12_1 < (l0.length : Int)) = true := decide_eq_true c3
     clear c3
     by_cases c4 : 0 ≤ x12_1
     ·rw [if_pos c4] at H
      have c4b0 : decide (0 ≤ x12_1) = true := decide_eq_true c4
      clear c4
      by_cases c5 : x12_1 < (l0.length : Int)
      ·rw [if_pos c5] at H
       have c5b0 : decide (x12_1 < (l0.length : Int)) = true := decide_eq_true c5
       clear c5;have HC6 := M_ H;clear H
       have p106 : 0 ≤ (x12_1 : Int) := dT_
       have q106 : x12_1 < (l0.length : Int) := dT_
       obtain ⟨ad106, e106, hx106_0, hx106_1, hx106_2⟩ := at_T31 HR0.out x12_1 p106 q106;cases e106;replace hx106_0 := (HB.out.cell (World.block_lt_of_cell? w _ hx106_0)).trans hx106_0;replace hx106_1 := (HB.out.cell (World.block_lt_of_cell? w _ hx106_1)).trans hx106_1;replace hx106_2 := (HB.out.cell (World.block_lt_of_cell? w _ hx106_2)).trans hx106_2;replace p106 := eq_true p106;replace q106 := eq_true q106
       go_upto_region 6 with (first | ((with_reducible refine gate_dst (N := 4) rfl ?_); refine bx_ (N := 4) (cs := #[.int .i64 0, .int .i64 0, .int .i64 0]) (t := 31) ?_; intro gb107 hg w7 hbox hb; have BK107 := M_ (hbox); have GW107 := M_ (gw_ HB hg); have GE107 := M_ (gw_ HB hg); replace HB := M_ (bS_ HB hb); clear hb hbox hg; obtain ⟨hcz8_0, hcz8_1, hcz8_2, hfz8_0, hfz8_1, hfz8_2⟩ := bq3_ BK107))
       (try simp only [Act.put, la_, lb_, lc_])
       go_cut [33] (fun v33 wc => ∃ (kq : Nat) (x33_5 : Bool), v33 = .bool x33_5 ∧ Aside0 (impl_IsScore.j1 kq l0 x12_1 l0 (l0.length : Int) x12_1 x33_5 ((rd_T31 l0 x12_1).f0) ((rd_T31 l0 x12_1).f1) ((rd_T31 l0 x12_1).f2) = some r) ∧ Aside0 (kq ≤ k1) ∧ Aside0 (wc.heap[gb107]? = some (.cells #[.int .i64 ((rd_T31 l0 x12_1).f0), .int .i64 ((rd_T31 l0 x12_1).f1), .int .i64 ((rd_T31 l0 x12_1).f2)] 31 (0, 0))) ∧ Aside0 (Below w.heap.size w wc))
       case first =>
        have H := HC6.out;clear HC6;replace H := Option.bind_eq_some_iff.mp H;obtain ⟨t108, A90, H⟩ := H;(try dsimp only at H);have A9 := M_ A90;clear A90
        by_cases c10 : t108 = true
        ·subst c10
         rw [if_pos rfl] at H
         by_cases c11 : x12_1 > 0
         ·rw [if_pos c11] at H
          have c11b0 : decide (0 < x12_1) = true := decide_eq_true c11
          clear c11
          (first | rw [c11b0] | (simp only [i64_w, i32_w]; rw [c11b0]) | skip)
          obtain ⟨ji12, hji12⟩ : ∃ j_ : Int, (wrap64 (x12_1 - 1)) = j_ := ⟨_, rfl⟩
          replace H : (if 0 ≤ (ji12) then (if (ji12) < (l0.length : Int) then ((impl_noteLess.f ((rd_T31 l0 (ji12)).f0) ((rd_T31 l0 (ji12)).f1) ((rd_T31 l0 (ji12)).f2) ((rd_T31 l0 x12_1).f0) ((rd_T31 l0 x12_1).f1) ((rd_T31 l0 x12_1).f2)).bind fun t110 => (impl_IsScore.j1 k1 l0 x12_1 l0 (l0.length : Int) x12_1 (!t110) ((rd_T31 l0 x12_1).f0) ((rd_T31 l0 x12_1).f1) ((rd_T31 l0 x12_1).f2))) else (none)) else (none)) = some r := by first | (rw [hji12] at H; exact H) | (simp only [hji12] at H ⊢; exact H)
          (try rw [hji12] at A9)
          have hji12w : (IntKind.i64.wrap (x12_1 - 1)) = ji12 := (i64_w _).trans hji12
          by_cases c13 : 0 ≤ (ji12)
          ·rw [if_pos c13] at H
           have c13b0 : decide (0 ≤ (ji12)) = true := decide_eq_true c13
           clear c13
           by_cases c14 : (ji12) < (l0.length : Int)
           ·rw [if_pos c14] at H
            have c14b0 : decide ((ji12) < (l0.length : Int)) = true := decide_eq_true c14
            clear c14;replace H := Option.bind_eq_some_iff.mp H;obtain ⟨t110, A150, H⟩ := H;(try dsimp only at H);have A15 := M_ A150;clear A150
            have H' := M_ H
            clear H
            try go_wp2
            have n0_ : Aside0 ((((w7.setCell ⟨gb107, 0, none⟩ (.int .i64 ((rd_T31 l0 x12_1).f0))).setCell ⟨gb107, 1, none⟩ (.int .i64 ((rd_T31 l0 x12_1).f1))).setCell ⟨gb107, 2, none⟩ (.int .i64 ((rd_T31 l0 x12_1).f2))).heap[gb107]? = some (.cells #[.int .i64 ((rd_T31 l0 x12_1).f0), .int .i64 ((rd_T31 l0 x12_1).f1), .int .i64 ((rd_T31 l0 x12_1).f2)] 31 (0, 0))) := ⟨by (with_reducible repeat (first | refine kn_ ?_ _ | refine kd_ ?_ | refine ka_ ?_ _)); refine blk_put (cs := #[.int .i64 ((rd_T31 l0 x12_1).f0), .int .i64 ((rd_T31 l0 x12_1).f1), .int .i64 0]) ?_ 2 _ rfl; (with_reducible repeat (first | refine kn_ ?_ _ | refine kd_ ?_ | refine ka_ ?_ _)); refine blk_put (cs := #[.int .i64 ((rd_T31 l0 x12_1).f0), .int .i64 0, .int .i64 0]) ?_ 1 _ rfl; (with_reducible repeat (first | refine kn_ ?_ _ | refine kd_ ?_ | refine ka_ ?_ _)); refine blk_put (cs := #[.int .i64 0, .int .i64 0, .int .i64 0]) ?_ 0 _ rfl; (with_reducible repeat (first | refine kn_ ?_ _ | refine kd_ ?_ | refine ka_ ?_ _)); exact BK107.out⟩
            have n1_ : Aside0 (Below w.heap.size w (((w7.setCell ⟨gb107, 0, none⟩ (.int .i64 ((rd_T31 l0 x12_1).f0))).setCell ⟨gb107, 1, none⟩ (.int .i64 ((rd_T31 l0 x12_1).f1))).setCell ⟨gb107, 2, none⟩ (.int .i64 ((rd_T31 l0 x12_1).f2)))) := ⟨bU_ HB⟩
            (try clear BK107)
            (try clear HB);generalize (((w7.setCell ⟨gb107, 0, none⟩ (.int .i64 ((rd_T31 l0 x12_1).f0))).setCell ⟨gb107, 1, none⟩ (.int .i64 ((rd_T31 l0 x12_1).f1))).setCell ⟨gb107, 2, none⟩ (.int .i64 ((rd_T31 l0 x12_1).f2))) = w16 at n0_ n1_ ⊢;have BK107 := n0_;have HB := n1_;clear n0_ n1_;replace BK107 := M_ (kd_ BK107.out); replace HB := M_ (b1_ HB.out)
            have p109 : 0 ≤ ((ji12) : Int) := dT_
            have q109 : (ji12) < (l0.length : Int) := dT_
            obtain ⟨ad109, e109, hx109_0, hx109_1, hx109_2⟩ := at_T31 HR0.out (ji12) p109 q109;have hw109_2 := hx109_2;have hw109_1 := hx109_1;have hw109_0 := hx109_0;obtain rfl : ad106 = ad109 := (by injection e109);replace hx109_0 := (HB.out.cell (World.block_lt_of_cell? w _ hx109_0)).trans hx109_0;replace hx109_1 := (HB.out.cell (World.block_lt_of_cell? w _ hx109_1)).trans hx109_1;replace hx109_2 := (HB.out.cell (World.block_lt_of_cell? w _ hx109_2)).trans hx109_2;replace p109 := eq_true p109;replace q109 := eq_true q109;refine start_ (n := 17) (S := fun w' => w'.cell? ⟨gb107, 0, none⟩ = some (.int .i64 ((rd_T31 l0 x12_1).f0)) ∧ w'.cell? ⟨gb107, 1, none⟩ = some (.int .i64 ((rd_T31 l0 x12_1).f1)) ∧ w'.cell? ⟨gb107, 2, none⟩ = some (.int .i64 ((rd_T31 l0 x12_1).f2)) ∧ w'.cell? (ad106.add (((ji12)).toNat * 3)) = some (.int .i64 ((rd_T31 l0 (ji12)).f0)) ∧ w'.cell? ⟨(ad106.add (((ji12)).toNat * 3)).block, (ad106.add (((ji12)).toNat * 3)).off + 1, none⟩ = some (.int .i64 ((rd_T31 l0 (ji12)).f1)) ∧ w'.cell? ⟨(ad106.add (((ji12)).toNat * 3)).block, (ad106.add (((ji12)).toNat * 3)).off + 2, none⟩ = some (.int .i64 ((rd_T31 l0 (ji12)).f2))) (ds := []) #[F,F,F,F,F,F,F,F,F,F,F,F,F,F,F,F,F] (by kernel_rfl) rfl rfl ⟨bc0_ BK107, bc1_ BK107, bc2_ BK107, ((HB.out.cell (World.block_lt_of_cell? w _ hw109_0)).trans hw109_0), ((HB.out.cell (World.block_lt_of_cell? w _ hw109_1)).trans hw109_1), ((HB.out.cell (World.block_lt_of_cell? w _ hw109_2)).trans hw109_2)⟩ (fun hHeld => ?_); refine with_tabW impl_IsScore.tab6 impl_IsScore.bits6 (fun HT_ HW_ => ?_);generalize w16.drew = w17 at BK107 HB hx109_0 hx109_1 hx109_2 hHeld ⊢;refine take_ (i := 0) (N := some 17) (v := ?_) (a' := ?_) #[T,F,F,F,F,F,F,F,F,F,F,F,F,F,F,F,F] rfl rfl (take_ofW HT_.out HW_.out (by kernel_rfl)) (fun _ _ _ h => h) (Or.inl ⟨by rfl, ?_⟩) hHeld ?_ ?_;rotate_left
            ·rintro w' ⟨s0, s1, s2, s3, s4, s5⟩
             go_simp;with_reducible rfl
            rotate_left
            ·simp only [Act.put, la_, lb_, lc_, i64_w, i32_w]
             rfl
            refine one_ (i := 1) (N := some 18) #[T,T,F,F,F,F,F,F,F,F,F,F,F,F,F,F,F] rfl rfl (one_of HT_.out (by kernel_rfl)) (by decide) (fun K hK => ?_);refine gS_ Tryz.func11 #[.agg #[.int .i64 ((rd_T31 l0 x12_1).f0), .int .i64 ((rd_T31 l0 x12_1).f1), .int .i64 ((rd_T31 l0 x12_1).f2)]] ?_
            with_reducible refine (impl_IsNote.calls ((rd_T31 l0 x12_1).f0) ((rd_T31 l0 x12_1).f1) ((rd_T31 l0 x12_1).f2) true _ A9.out).mono ?_
            rintro e w18 ⟨rfl, hb⟩;refine ⟨_, rfl, ?_⟩;replace BK107 := M_ (kb_ BK107 hb); replace HB := M_ (bS_ HB hb);clear hb;refine hK.out _ _ ⟨bc0_ BK107, bc1_ BK107, bc2_ BK107, ((HB.out.cell (World.block_lt_of_cell? w _ hw109_0)).trans hw109_0), ((HB.out.cell (World.block_lt_of_cell? w _ hw109_1)).trans hw109_1), ((HB.out.cell (World.block_lt_of_cell? w _ hw109_2)).trans hw109_2)⟩ (fun hHeld => ?_);clear hK K;refine nM_ (some 18) ?_;refine pR_ (i := 2) (N := some 19) #[T,T,T,F,F,F,F,F,F,F,F,F,F,F,F,F,F] ?_;refine pR_ (i := 3) (N := some 20) #[T,T,T,T,F,F,F,F,F,F,F,F,F,F,F,F,F] ?_;refine pR_ (i := 4) (N := some 21) #[T,T,T,T,T,F,F,F,F,F,F,F,F,F,F,F,F] ?_;refine pR_ (i := 5) (N := some 22) #[T,T,T,T,T,T,F,F,F,F,F,F,F,F,F,F,F] ?_;refine pR_ (i := 6) (N := some 23) #[T,T,T,T,T,T,T,F,F,F,F,F,F,F,F,F,F] ?_;refine pR_ (i := 7) (N := some 24) #[T,T,T,T,T,T,T,T,F,F,F,F,F,F,F,F,F] ?_;refine pR_ (i := 8) (N := some 25) #[T,T,T,T,T,T,T,T,T,F,F,F,F,F,F,F,F] ?_;refine pR_ (i := 9) (N := some 26) #[T,T,T,T,T,T,T,T,T,T,F,F,F,F,F,F,F] ?_;refine pR_ (i := 10) (N := some 27) #[T,T,T,T,T,T,T,T,T,T,T,F,F,F,F,F,F] ?_;refine take_ (i := 11) (N := some 28) (v := ?_) (a' := ?_) #[T,T,T,T,T,T,T,T,T,T,T,T,F,F,F,F,F] rfl rfl (take_ofW HT_.out HW_.out (by kernel_rfl)) (fun _ _ _ h => h) (Or.inl ⟨by rfl, ?_⟩) hHeld ?_ ?_;rotate_left
            ·rintro w' ⟨s0, s1, s2, s3, s4, s5⟩
             go_simp;with_reducible rfl
            rotate_left
            ·simp only [Act.put, la_, lb_, lc_, i64_w, i32_w]
             rfl
            refine take_ (i := 12) (N := some 29) (v := ?_) (a' := ?_) #[T,T,T,T,T,T,T,T,T,T,T,T,T,F,F,F,F] rfl rfl (take_ofW HT_.out HW_.out (by kernel_rfl)) (fun _ _ _ h => h) (Or.inl ⟨by rfl, ?_⟩) hHeld ?_ ?_;rotate_left
            ·rintro w' ⟨s0, s1, s2, s3, s4, s5⟩
             go_simp;with_reducible rfl
            rotate_left
            ·simp only [Act.put, la_, lb_, lc_, i64_w, i32_w]
             rfl
            refine one_ (i := 13) (N := some 30) #[T,T,T,T,T,T,T,T,T,T,T,T,T,T,F,F,F] rfl rfl (one_of HT_.out (by kernel_rfl)) (by decide) (fun K hK => ?_);refine goes_ Tryz.func46 (by kernel_rfl) rfl #[.agg #[.int .i64 ((rd_T31 l0 (ji12)).f0), .int .i64 ((rd_T31 l0 (ji12)).f1), .int .i64 ((rd_T31 l0 (ji12)).f2)], .agg #[.int .i64 ((rd_T31 l0 x12_1).f0), .int .i64 ((rd_T31 l0 x12_1).f1), .int .i64 ((rd_T31 l0 x12_1).f2)]] (by rfl) rfl rfl (by (try simp only [List.map_toArray, List.map_cons, List.map_nil]); first | done | (simp only [hji12]; rfl) | rfl | (simp only [List.length_drop, List.length_take]; rfl)) ?_
            with_reducible refine (impl_noteLess.calls ((rd_T31 l0 (ji12)).f0) ((rd_T31 l0 (ji12)).f1) ((rd_T31 l0 (ji12)).f2) ((rd_T31 l0 x12_1).f0) ((rd_T31 l0 x12_1).f1) ((rd_T31 l0 x12_1).f2) t110 _ A15.out).mono ?_
            rintro e w19 ⟨rfl, hb⟩;refine ⟨_, rfl, ?_⟩;replace BK107 := M_ (kb_ BK107 hb); replace HB := M_ (bS_ HB hb);clear hb;refine hK.out _ _ ⟨bc0_ BK107, bc1_ BK107, bc2_ BK107, ((HB.out.cell (World.block_lt_of_cell? w _ hw109_0)).trans hw109_0), ((HB.out.cell (World.block_lt_of_cell? w _ hw109_1)).trans hw109_1), ((HB.out.cell (World.block_lt_of_cell? w _ hw109_2)).trans hw109_2)⟩ (fun hHeld => ?_);clear hK K;refine nM_ (some 30) ?_;refine pR_ (i := 14) (N := some 31) #[T,T,T,T,T,T,T,T,T,T,T,T,T,T,T,F,F] ?_;refine pR_ (i := 15) (N := some 32) #[T,T,T,T,T,T,T,T,T,T,T,T,T,T,T,T,F] ?_;refine pR_ (i := 16) (N := some 33) #[T,T,T,T,T,T,T,T,T,T,T,T,T,T,T,T,T] ?_;refine done_ (done_of HT_.out (by kernel_rfl)) ?_
            try go_wp2
            go_meet
            case rel => exact ⟨_, (!t110), eD_, H', ⟨by have := HK1.out; first | omega | exact Nat.le_refl _⟩, ⟨kU_ BK107⟩, ⟨bU_ HB⟩⟩
           ·rw [if_neg c14] at H
            exact absurd H (by simp)
          ·rw [if_neg c13] at H
           exact absurd H (by simp)
         ·rw [if_neg c11] at H
          have c11b0 : decide (0 < x12_1) = false := decide_eq_false c11
          clear c11
          (first | rw [c11b0] | (simp only [i64_w, i32_w]; rw [c11b0]) | skip)
          have H' := M_ H
          clear H
          try go_wp2
          have n0_ : Aside0 ((((w7.setCell ⟨gb107, 0, none⟩ (.int .i64 ((rd_T31 l0 x12_1).f0))).setCell ⟨gb107, 1, none⟩ (.int .i64 ((rd_T31 l0 x12_1).f1))).setCell ⟨gb107, 2, none⟩ (.int .i64 ((rd_T31 l0 x12_1).f2))).heap[gb107]? = some (.cells #[.int .i64 ((rd_T31 l0 x12_1).f0), .int .i64 ((rd_T31 l0 x12_1).f1), .int .i64 ((rd_T31 l0 x12_1).f2)] 31 (0, 0))) := ⟨by (with_reducible repeat (first | refine kn_ ?_ _ | refine kd_ ?_ | refine ka_ ?_ _)); refine blk_put (cs := #[.int .i64 ((rd_T31 l0 x12_1).f0), .int .i64 ((rd_T31 l0 x12_1).f1), .int .i64 0]) ?_ 2 _ rfl; (with_reducible repeat (first | refine kn_ ?_ _ | refine kd_ ?_ | refine ka_ ?_ _)); refine blk_put (cs := #[.int .i64 ((rd_T31 l0 x12_1).f0), .int .i64 0, .int .i64 0]) ?_ 1 _ rfl; (with_reducible repeat (first | refine kn_ ?_ _ | refine kd_ ?_ | refine ka_ ?_ _)); refine blk_put (cs := #[.int .i64 0, .int .i64 0, .int .i64 0]) ?_ 0 _ rfl; (with_reducible repeat (first | refine kn_ ?_ _ | refine kd_ ?_ | refine ka_ ?_ _)); exact BK107.out⟩
          have n1_ : Aside0 (Below w.heap.size w (((w7.setCell ⟨gb107, 0, none⟩ (.int .i64 ((rd_T31 l0 x12_1).f0))).setCell ⟨gb107, 1, none⟩ (.int .i64 ((rd_T31 l0 x12_1).f1))).setCell ⟨gb107, 2, none⟩ (.int .i64 ((rd_T31 l0 x12_1).f2)))) := ⟨bU_ HB⟩
          (try clear BK107)
          (try clear HB);generalize (((w7.setCell ⟨gb107, 0, none⟩ (.int .i64 ((rd_T31 l0 x12_1).f0))).setCell ⟨gb107, 1, none⟩ (.int .i64 ((rd_T31 l0 x12_1).f1))).setCell ⟨gb107, 2, none⟩ (.int .i64 ((rd_T31 l0 x12_1).f2))) = w20 at n0_ n1_ ⊢;have BK107 := n0_;have HB := n1_;clear n0_ n1_;replace BK107 := M_ (kd_ BK107.out); replace HB := M_ (b1_ HB.out);refine start_ (n := 17) (S := fun w' => w'.cell? ⟨gb107, 0, none⟩ = some (.int .i64 ((rd_T31 l0 x12_1).f0)) ∧ w'.cell? ⟨gb107, 1, none⟩ = some (.int .i64 ((rd_T31 l0 x12_1).f1)) ∧ w'.cell? ⟨gb107, 2, none⟩ = some (.int .i64 ((rd_T31 l0 x12_1).f2))) (ds := []) #[F,F,F,F,F,F,F,F,F,F,F,F,F,F,F,F,F] (by kernel_rfl) rfl rfl ⟨bc0_ BK107, bc1_ BK107, bc2_ BK107⟩ (fun hHeld => ?_); refine with_tabW impl_IsScore.tab6 impl_IsScore.bits6 (fun HT_ HW_ => ?_);generalize w20.drew = w21 at BK107 HB hHeld ⊢;refine take_ (i := 0) (N := some 17) (v := ?_) (a' := ?_) #[T,F,F,F,F,F,F,F,F,F,F,F,F,F,F,F,F] rfl rfl (take_ofW HT_.out HW_.out (by kernel_rfl)) (fun _ _ _ h => h) (Or.inl ⟨by rfl, ?_⟩) hHeld ?_ ?_;rotate_left
          ·rintro w' ⟨s0, s1, s2⟩
           go_simp;with_reducible rfl
          rotate_left
          ·simp only [Act.put, la_, lb_, lc_, i64_w, i32_w]
           rfl
          refine one_ (i := 1) (N := some 18) #[T,T,F,F,F,F,F,F,F,F,F,F,F,F,F,F,F] rfl rfl (one_of HT_.out (by kernel_rfl)) (by decide) (fun K hK => ?_);refine gS_ Tryz.func11 #[.agg #[.int .i64 ((rd_T31 l0 x12_1).f0), .int .i64 ((rd_T31 l0 x12_1).f1), .int .i64 ((rd_T31 l0 x12_1).f2)]] ?_
          with_reducible refine (impl_IsNote.calls ((rd_T31 l0 x12_1).f0) ((rd_T31 l0 x12_1).f1) ((rd_T31 l0 x12_1).f2) true _ A9.out).mono ?_
          rintro e w22 ⟨rfl, hb⟩;refine ⟨_, rfl, ?_⟩;replace BK107 := M_ (kb_ BK107 hb); replace HB := M_ (bS_ HB hb);clear hb;refine hK.out _ _ ⟨bc0_ BK107, bc1_ BK107, bc2_ BK107⟩ (fun hHeld => ?_);clear hK K;refine nM_ (some 18) ?_;refine pR_ (i := 2) (N := some 19) #[T,T,T,F,F,F,F,F,F,F,F,F,F,F,F,F,F] ?_;refine pR_ (i := 3) (N := some 20) #[T,T,T,T,F,F,F,F,F,F,F,F,F,F,F,F,F] ?_;refine pR_ (i := 4) (N := some 21) #[T,T,T,T,T,F,F,F,F,F,F,F,F,F,F,F,F] ?_;refine pR_ (i := 5) (N := some 22) #[T,T,T,T,T,T,F,F,F,F,F,F,F,F,F,F,F] ?_;refine pR_ (i := 6) (N := some 23) #[T,T,T,T,T,T,T,F,F,F,F,F,F,F,F,F,F] ?_;refine pV_ (i := 7) (N := some 24) #[T,T,T,T,T,T,T,T,F,F,F,F,F,F,F,F,F] ?_;refine pV_ (i := 8) (N := some 25) #[T,T,T,T,T,T,T,T,T,F,F,F,F,F,F,F,F] ?_;refine pV_ (i := 9) (N := some 26) #[T,T,T,T,T,T,T,T,T,T,F,F,F,F,F,F,F] ?_;refine pV_ (i := 10) (N := some 27) #[T,T,T,T,T,T,T,T,T,T,T,F,F,F,F,F,F] ?_;refine pV_ (i := 11) (N := some 28) #[T,T,T,T,T,T,T,T,T,T,T,T,F,F,F,F,F] ?_;refine pV_ (i := 12) (N := some 29) #[T,T,T,T,T,T,T,T,T,T,T,T,T,F,F,F,F] ?_;refine pV_ (i := 13) (N := some 30) #[T,T,T,T,T,T,T,T,T,T,T,T,T,T,F,F,F] ?_;refine pV_ (i := 14) (N := some 31) #[T,T,T,T,T,T,T,T,T,T,T,T,T,T,T,F,F] ?_;refine pR_ (i := 15) (N := some 32) #[T,T,T,T,T,T,T,T,T,T,T,T,T,T,T,T,F] ?_;refine pR_ (i := 16) (N := some 33) #[T,T,T,T,T,T,T,T,T,T,T,T,T,T,T,T,T] ?_;refine done_ (done_of HT_.out (by kernel_rfl)) ?_
          try go_wp2
          go_meet
          case rel => exact ⟨_, (false), eD_, H', ⟨by have := HK1.out; first | omega | exact Nat.le_refl _⟩, ⟨kU_ BK107⟩, ⟨bU_ HB⟩⟩
        ·replace c10 := Bool.eq_false_iff.mpr c10
         subst c10
         rw [if_neg (show ¬ (false = true) by decide)] at H
         have H' := M_ H
         clear H
         try go_wp2
         have n0_ : Aside0 ((((w7.setCell ⟨gb107, 0, none⟩ (.int .i64 ((rd_T31 l0 x12_1).f0))).setCell ⟨gb107, 1, none⟩ (.int .i64 ((rd_T31 l0 x12_1).f1))).setCell ⟨gb107, 2, none⟩ (.int .i64 ((rd_T31 l0 x12_1).f2))).heap[gb107]? = some (.cells #[.int .i64 ((rd_T31 l0 x12_1).f0), .int .i64 ((rd_T31 l0 x12_1).f1), .int .i64 ((rd_T31 l0 x12_1).f2)] 31 (0, 0))) := ⟨by (with_reducible repeat (first | refine kn_ ?_ _ | refine kd_ ?_ | refine ka_ ?_ _)); refine blk_put (cs := #[.int .i64 ((rd_T31 l0 x12_1).f0), .int .i64 ((rd_T31 l0 x12_1).f1), .int .i64 0]) ?_ 2 _ rfl; (with_reducible repeat (first | refine kn_ ?_ _ | refine kd_ ?_ | refine ka_ ?_ _)); refine blk_put (cs := #[.int .i64 ((rd_T31 l0 x12_1).f0), .int .i64 0, .int .i64 0]) ?_ 1 _ rfl; (with_reducible repeat (first | refine kn_ ?_ _ | refine kd_ ?_ | refine ka_ ?_ _)); refine blk_put (cs := #[.int .i64 0, .int .i64 0, .int .i64 0]) ?_ 0 _ rfl; (with_reducible repeat (first | refine kn_ ?_ _ | refine kd_ ?_ | refine ka_ ?_ _)); exact BK107.out⟩
         have n1_ : Aside0 (Below w.heap.size w (((w7.setCell ⟨gb107, 0, none⟩ (.int .i64 ((rd_T31 l0 x12_1).f0))).setCell ⟨gb107, 1, none⟩ (.int .i64 ((rd_T31 l0 x12_1).f1))).setCell ⟨gb107, 2, none⟩ (.int .i64 ((rd_T31 l0 x12_1).f2)))) := ⟨bU_ HB⟩
         (try clear BK107)
         (try clear HB);generalize (((w7.setCell ⟨gb107, 0, none⟩ (.int .i64 ((rd_T31 l0 x12_1).f0))).setCell ⟨gb107, 1, none⟩ (.int .i64 ((rd_T31 l0 x12_1).f1))).setCell ⟨gb107, 2, none⟩ (.int .i64 ((rd_T31 l0 x12_1).f2))) = w23 at n0_ n1_ ⊢;have BK107 := n0_;have HB := n1_;clear n0_ n1_;replace BK107 := M_ (kd_ BK107.out); replace HB := M_ (b1_ HB.out);refine start_ (n := 17) (S := fun w' => w'.cell? ⟨gb107, 0, none⟩ = some (.int .i64 ((rd_T31 l0 x12_1).f0)) ∧ w'.cell? ⟨gb107, 1, none⟩ = some (.int .i64 ((rd_T31 l0 x12_1).f1)) ∧ w'.cell? ⟨gb107, 2, none⟩ = some (.int .i64 ((rd_T31 l0 x12_1).f2))) (ds := []) #[F,F,F,F,F,F,F,F,F,F,F,F,F,F,F,F,F] (by kernel_rfl) rfl rfl ⟨bc0_ BK107, bc1_ BK107, bc2_ BK107⟩ (fun hHeld => ?_); refine with_tabW impl_IsScore.tab6 impl_IsScore.bits6 (fun HT_ HW_ => ?_);generalize w23.drew = w24 at BK107 HB hHeld ⊢;refine take_ (i := 0) (N := some 17) (v := ?_) (a' := ?_) #[T,F,F,F,F,F,F,F,F,F,F,F,F,F,F,F,F] rfl rfl (take_ofW HT_.out HW_.out (by kernel_rfl)) (fun _ _ _ h => h) (Or.inl ⟨by rfl, ?_⟩) hHeld ?_ ?_;rotate_left
         ·rintro w' ⟨s0, s1, s2⟩
          go_simp;with_reducible rfl
         rotate_left
         ·simp only [Act.put, la_, lb_, lc_, i64_w, i32_w]
          rfl
         refine one_ (i := 1) (N := some 18) #[T,T,F,F,F,F,F,F,F,F,F,F,F,F,F,F,F] rfl rfl (one_of HT_.out (by kernel_rfl)) (by decide) (fun K hK => ?_);refine gS_ Tryz.func11 #[.agg #[.int .i64 ((rd_T31 l0 x12_1).f0), .int .i64 ((rd_T31 l0 x12_1).f1), .int .i64 ((rd_T31 l0 x12_1).f2)]] ?_
         with_reducible refine (impl_IsNote.calls ((rd_T31 l0 x12_1).f0) ((rd_T31 l0 x12_1).f1) ((rd_T31 l0 x12_1).f2) false _ A9.out).mono ?_
         rintro e w25 ⟨rfl, hb⟩;refine ⟨_, rfl, ?_⟩;replace BK107 := M_ (kb_ BK107 hb); replace HB := M_ (bS_ HB hb);clear hb;refine hK.out _ _ ⟨bc0_ BK107, bc1_ BK107, bc2_ BK107⟩ (fun hHeld => ?_);clear hK K;refine nM_ (some 18) ?_;refine pR_ (i := 2) (N := some 19) #[T,T,T,F,F,F,F,F,F,F,F,F,F,F,F,F,F] ?_;refine pR_ (i := 3) (N := some 20) #[T,T,T,T,F,F,F,F,F,F,F,F,F,F,F,F,F] ?_;refine pV_ (i := 4) (N := some 21) #[T,T,T,T,T,F,F,F,F,F,F,F,F,F,F,F,F] ?_;refine pV_ (i := 5) (N := some 22) #[T,T,T,T,T,T,F,F,F,F,F,F,F,F,F,F,F] ?_;refine pV_ (i := 6) (N := some 23) #[T,T,T,T,T,T,T,F,F,F,F,F,F,F,F,F,F] ?_;refine pV_ (i := 7) (N := some 24) #[T,T,T,T,T,T,T,T,F,F,F,F,F,F,F,F,F] ?_;refine pV_ (i := 8) (N := some 25) #[T,T,T,T,T,T,T,T,T,F,F,F,F,F,F,F,F] ?_;refine pV_ (i := 9) (N := some 26) #[T,T,T,T,T,T,T,T,T,T,F,F,F,F,F,F,F] ?_;refine pV_ (i := 10) (N := some 27) #[T,T,T,T,T,T,T,T,T,T,T,F,F,F,F,F,F] ?_;refine pV_ (i := 11) (N := some 28) #[T,T,T,T,T,T,T,T,T,T,T,T,F,F,F,F,F] ?_;refine pV_ (i := 12) (N := some 29) #[T,T,T,T,T,T,T,T,T,T,T,T,T,F,F,F,F] ?_;refine pV_ (i := 13) (N := some 30) #[T,T,T,T,T,T,T,T,T,T,T,T,T,T,F,F,F] ?_;refine pV_ (i := 14) (N := some 31) #[T,T,T,T,T,T,T,T,T,T,T,T,T,T,T,F,F] ?_;refine pV_ (i := 15) (N := some 32) #[T,T,T,T,T,T,T,T,T,T,T,T,T,T,T,T,F] ?_;refine pR_ (i := 16) (N := some 33) #[T,T,T,T,T,T,T,T,T,T,T,T,T,T,T,T,T] ?_;refine done_ (done_of HT_.out (by kernel_rfl)) ?_
         try go_wp2
         go_meet
         case rel => exact ⟨_, (true), eD_, H', ⟨by have := HK1.out; first | omega | exact Nat.le_refl _⟩, ⟨kU_ BK107⟩, ⟨bU_ HB⟩⟩
       case rest =>
        clear HC6;obtain ⟨kq, x33_5, rfl, HA, HJ5, BK107, HB⟩ := hcut
        cases kq with
        | zero => exact absurd HA.out (by simp [impl_IsScore.j1])
        | succ kj5 =>
         have H := HA.out;clear HA;simp only [impl_IsScore.j1] at H
         by_cases c26 : x33_5 = true
         ·subst c26
          have H1 : (some false) = some r := by rw [if_pos rfl] at H; exact H
          clear H;have H := H1;clear H1;obtain rfl := Option.some.inj H
          go_wp2
          go_ret
          exact ⟨eR_, bU_ HB⟩
         ·replace c26 := Bool.eq_false_iff.mpr c26
          subst c26
          rw [if_neg (show ¬ (false = true) by decide)] at H
          by_cases c27 : 0 ≤ x12_1
          ·rw [if_pos c27] at H
           have c27b0 := eq_true c27
           have c27b1 : decide (0 ≤ x12_1) = true := decide_eq_true c27
           clear c27
           by_cases c28 : x12_1 ≤ (l0.length : Int)
           ·rw [if_pos c28] at H
            have c28b0 := eq_true c28
            have c28b1 : decide (x12_1 ≤ (l0.length : Int)) = true := decide_eq_true c28
            clear c28;obtain ⟨y111, hy111, H⟩ := ob_ H;(try dsimp only at H);have Ny111 := M_ hy111;clear hy111
            have H' := M_ H
            clear H
            have q29 : (x12_1 : Int) ≤ ((l0.length : Int) : Int) := dT_
            obtain ⟨i029, hi029, _, hsz29, _⟩ := info_parts info31
            have hroom29 : l0.length ≤ c0 := HC0.out
            have hC29 : Kd.C k31 _ (some ad106) l0.length l0 := HR0.out
            have hcut29 := cut_to (P := Tryz.prog) 24 31 .i64 Tryz.underlying24 hi029 (some ad106) l0.length c0 x12_1 (dT_) q29 hroom29;have hr29 := Kd.C_take (m := (x12_1 : Int).toNat) hC29 (by omega)
            have hy29 : y111.length = (x12_1 : Int).toNat := (by rw [Ny111.out, List.length_take]; omega)
            rw [← Ny111.out] at hr29
            rw [← hy29] at hcut29
            have HR114 := M_ hr29;have HC114 := M_ (show y111.length ≤ c0 from by omega);clear hr29 hC29 hroom29 hi029 hsz29;have KY29 := M_ hy29;clear hy29;replace q29 := eq_true q29
            go_wp2
            go_loopg [38] kj5 (fun kq v38 w' => ∃ (x38_3 : Int), v38 = .int .i64 x38_3 ∧ Aside0 (impl_IsScore.l1 kq l0 l0 (l0.length : Int) x12_1 y111 (y111.length : Int) x38_3 ((rd_T31 l0 x12_1).f0) ((rd_T31 l0 x12_1).f1) ((rd_T31 l0 x12_1).f2) = some r) ∧ Aside0 (kq ≤ kj5) ∧ Aside0 (w'.heap[gb107]? = some (.cells #[.int .i64 ((rd_T31 l0 x12_1).f0), .int .i64 ((rd_T31 l0 x12_1).f1), .int .i64 ((rd_T31 l0 x12_1).f2)] 31 (0, 0))) ∧ Aside0 (Below w.heap.size w w'))
            case atStart => exact ⟨(0), eD_, H', ⟨Nat.le_refl _⟩, ⟨kU_ BK107⟩, ⟨bU_ HB⟩⟩
            case round =>
             clear H';obtain ⟨x38_3, rfl, HA, HK3, BK107, HB⟩ := hrel
             cases gk with
             | zero => exact absurd HA.out (by simp [impl_IsScore.l1])
             | succ k3 =>
              have H := HA.out;clear HA;simp only [impl_IsScore.l1] at H
              by_cases c30 : x38_3 < (y111.length : Int)
              ·rw [if_pos c30] at H
               have c30b0 : decide (x38_3 < (y111.length : Int)) = true := decide_eq_true c30
               clear c30
               by_cases c31 : 0 ≤ x38_3
               ·rw [if_pos c31] at H
                have c31b0 : decide (0 ≤ x38_3) = true := decide_eq_true c31
                clear c31
                by_cases c32 : x38_3 < (y111.length : Int)
                ·rw [if_pos c32] at H
                 have c32b0 : decide (x38_3 < (y111.length : Int)) = true := decide_eq_true c32
                 clear c32
                 by_cases c33 : ((rd_T31 y111 x38_3).f0) = ((rd_T31 l0 x12_1).f0)
                 ·rw [if_pos c33] at H
                  have c33b0 : (((rd_T31 y111 x38_3).f0) == ((rd_T31 l0 x12_1).f0)) = true := beq_iff_eq.mpr c33
                  have c33b1 : (((rd_T31 y111 x38_3).f0) != ((rd_T31 l0 x12_1).f0)) = false := bne_eq_false_iff_eq.mpr c33
                  clear c33;replace H := Option.bind_eq_some_iff.mp H;obtain ⟨t117, A340, H⟩ := H;(try dsimp only at H);have A34 := M_ A340;clear A340
                  by_cases c35 : t117 > ((rd_T31 l0 x12_1).f1)
                  focus
                   rw [if_pos c35] at H
                   have c35b0 : decide (((rd_T31 l0 x12_1).f1) < t117) = true := decide_eq_true c35
                   clear c35;obtain rfl := Option.some.inj H
                   have p115 : 0 ≤ (x38_3 : Int) := dT_
                   have q115 : x38_3 < (y111.length : Int) := dT_
                   obtain ⟨ad115, e115, hx115_0, hx115_1, hx115_2⟩ := at_T31 HR114.out x38_3 p115 q115;obtain rfl : ad106 = ad115 := (by injection e115);replace hx115_0 := (HB.out.cell (World.block_lt_of_cell? w _ hx115_0)).trans hx115_0;replace hx115_1 := (HB.out.cell (World.block_lt_of_cell? w _ hx115_1)).trans hx115_1;replace hx115_2 := (HB.out.cell (World.block_lt_of_cell? w _ hx115_2)).trans hx115_2;replace p115 := eq_true p115;replace q115 := eq_true q115
                   try go_wp2_with (first | ((with_reducible refine gate_dst (N := 6) rfl ?_); refine bx_ (N := 6) (cs := #[.int .i64 0, .int .i64 0, .int .i64 0]) (t := 31) ?_; intro gb116 hg w36 hbox hb; have BK116 := M_ (hbox); have GW116 := M_ (gw_ HB hg); have GE116 := M_ (gw_ HB hg); replace HB := M_ (bS_ HB hb); have NB107_116 := M_ (nb_ BK107 hg); have NB116_107 := M_ ((by rw [hg]; exact Nat.ne_of_gt (blk_lt (kU_ BK107)) : gb116 ≠ gb107)); replace BK107 := M_ (kb_ BK107 hb); clear hb hbox hg; have hnb37 := NB116_107.out; have hnc37 := NB107_116.out; obtain ⟨hcz38_0, hcz38_1, hcz38_2, hfz38_0, hfz38_1, hfz38_2⟩ := bq3_ BK116))
                  rotate_left
                  focus
                   rw [if_neg c35] at H
                   have c35b0 : decide (((rd_T31 l0 x12_1).f1) < t117) = false := decide_eq_false c35
                   clear c35
                   have H' := M_ H
                   clear H
                   have p115 : 0 ≤ (x38_3 : Int) := dT_
                   have q115 : x38_3 < (y111.length : Int) := dT_
                   obtain ⟨ad115, e115, hx115_0, hx115_1, hx115_2⟩ := at_T31 HR114.out x38_3 p115 q115;obtain rfl : ad106 = ad115 := (by injection e115);replace hx115_0 := (HB.out.cell (World.block_lt_of_cell? w _ hx115_0)).trans hx115_0;replace hx115_1 := (HB.out.cell (World.block_lt_of_cell? w _ hx115_1)).trans hx115_1;replace hx115_2 := (HB.out.cell (World.block_lt_of_cell? w _ hx115_2)).trans hx115_2;replace p115 := eq_true p115;replace q115 := eq_true q115
                   try go_wp2_with (first | ((with_reducible refine gate_dst (N := 6) rfl ?_); refine bx_ (N := 6) (cs := #[.int .i64 0, .int .i64 0, .int .i64 0]) (t := 31) ?_; intro gb116 hg w36 hbox hb; have BK116 := M_ (hbox); have GW116 := M_ (gw_ HB hg); have GE116 := M_ (gw_ HB hg); replace HB := M_ (bS_ HB hb); have NB107_116 := M_ (nb_ BK107 hg); have NB116_107 := M_ ((by rw [hg]; exact Nat.ne_of_gt (blk_lt (kU_ BK107)) : gb116 ≠ gb107)); replace BK107 := M_ (kb_ BK107 hb); clear hb hbox hg; have hnb43 := NB116_107.out; have hnc43 := NB107_116.out; obtain ⟨hcz44_0, hcz44_1, hcz44_2, hfz44_0, hfz44_1, hfz44_2⟩ := bq3_ BK116))
                  rotate_left
                  all_goals
                   have n0_ : Aside0 ((((w36.setCell ⟨gb116, 0, none⟩ (.int .i64 ((rd_T31 y111 x38_3).f0))).setCell ⟨gb116, 1, none⟩ (.int .i64 ((rd_T31 y111 x38_3).f1))).setCell ⟨gb116, 2, none⟩ (.int .i64 ((rd_T31 y111 x38_3).f2))).heap[gb107]? = some (.cells #[.int .i64 ((rd_T31 l0 x12_1).f0), .int .i64 ((rd_T31 l0 x12_1).f1), .int .i64 ((rd_T31 l0 x12_1).f2)] 31 (0, 0))) := ⟨by (with_reducible repeat (first | refine kn_ ?_ _ | refine kd_ ?_ | refine ka_ ?_ _)); refine blk_far ?_ NB107_116.out _; (with_reducible repeat (first | refine kn_ ?_ _ | refine kd_ ?_ | refine ka_ ?_ _)); refine blk_far ?_ NB107_116.out _; (with_reducible repeat (first | refine kn_ ?_ _ | refine kd_ ?_ | refine ka_ ?_ _)); refine blk_far ?_ NB107_116.out _; (with_reducible repeat (first | refine kn_ ?_ _ | refine kd_ ?_ | refine ka_ ?_ _)); exact BK107.out⟩
                   have n1_ : Aside0 ((((w36.setCell ⟨gb116, 0, none⟩ (.int .i64 ((rd_T31 y111 x38_3).f0))).setCell ⟨gb116, 1, none⟩ (.int .i64 ((rd_T31 y111 x38_3).f1))).setCell ⟨gb116, 2, none⟩ (.int .i64 ((rd_T31 y111 x38_3).f2))).heap[gb116]? = some (.cells #[.int .i64 ((rd_T31 y111 x38_3).f0), .int .i64 ((rd_T31 y111 x38_3).f1), .int .i64 ((rd_T31 y111 x38_3).f2)] 31 (0, 0))) := ⟨by (with_reducible repeat (first | refine kn_ ?_ _ | refine kd_ ?_ | refine ka_ ?_ _)); refine blk_put (cs := #[.int .i64 ((rd_T31 y111 x38_3).f0), .int .i64 ((rd_T31 y111 x38_3).f1), .int .i64 0]) ?_ 2 _ rfl; (with_reducible repeat (first | refine kn_ ?_ _ | refine kd_ ?_ | refine ka_ ?_ _)); refine blk_put (cs := #[.int .i64 ((rd_T31 y111 x38_3).f0), .int .i64 0, .int .i64 0]) ?_ 1 _ rfl; (with_reducible repeat (first | refine kn_ ?_ _ | refine kd_ ?_ | refine ka_ ?_ _)); refine blk_put (cs := #[.int .i64 0, .int .i64 0, .int .i64 0]) ?_ 0 _ rfl; (with_reducible repeat (first | refine kn_ ?_ _ | refine kd_ ?_ | refine ka_ ?_ _)); exact BK116.out⟩
                   have n2_ : Aside0 (Below w.heap.size w (((w36.setCell ⟨gb116, 0, none⟩ (.int .i64 ((rd_T31 y111 x38_3).f0))).setCell ⟨gb116, 1, none⟩ (.int .i64 ((rd_T31 y111 x38_3).f1))).setCell ⟨gb116, 2, none⟩ (.int .i64 ((rd_T31 y111 x38_3).f2)))) := ⟨bU_ HB⟩
                   (try clear BK107)
                   (try clear BK116)
                   (try clear HB);generalize (((w36.setCell ⟨gb116, 0, none⟩ (.int .i64 ((rd_T31 y111 x38_3).f0))).setCell ⟨gb116, 1, none⟩ (.int .i64 ((rd_T31 y111 x38_3).f1))).setCell ⟨gb116, 2, none⟩ (.int .i64 ((rd_T31 y111 x38_3).f2))) = w39 at n0_ n1_ n2_ ⊢;have BK107 := n0_;have BK116 := n1_;have HB := n2_;clear n0_ n1_ n2_;replace BK107 := M_ (kd_ BK107.out); replace BK116 := M_ (kd_ BK116.out); replace HB := M_ (b1_ HB.out);refine start_ (n := 12) (S := fun w' => w'.cell? ⟨gb116, 0, none⟩ = some (.int .i64 ((rd_T31 y111 x38_3).f0)) ∧ w'.cell? ⟨gb116, 1, none⟩ = some (.int .i64 ((rd_T31 y111 x38_3).f1)) ∧ w'.cell? ⟨gb116, 2, none⟩ = some (.int .i64 ((rd_T31 y111 x38_3).f2)) ∧ w'.cell? ⟨gb107, 0, none⟩ = some (.int .i64 ((rd_T31 l0 x12_1).f0)) ∧ w'.cell? ⟨gb107, 1, none⟩ = some (.int .i64 ((rd_T31 l0 x12_1).f1)) ∧ w'.cell? ⟨gb107, 2, none⟩ = some (.int .i64 ((rd_T31 l0 x12_1).f2))) (ds := []) #[F,F,F,F,F,F,F,F,F,F,F,F] (by kernel_rfl) rfl rfl ⟨bc0_ BK116, bc1_ BK116, bc2_ BK116, bc0_ BK107, bc1_ BK107, bc2_ BK107⟩ (fun hHeld => ?_); refine with_tabW impl_IsScore.tab11 impl_IsScore.bits11 (fun HT_ HW_ => ?_);generalize w39.drew = w40 at BK107 BK116 HB hHeld ⊢;refine pR_ (i := 0) (N := some 42) #[T,F,F,F,F,F,F,F,F,F,F,F] ?_;refine pR_ (i := 2) (N := some 44) #[T,F,T,F,F,F,F,F,F,F,F,F] ?_;refine take_ (i := 1) (N := some 43) (v := ?_) (a' := ?_) #[T,T,T,F,F,F,F,F,F,F,F,F] rfl rfl (take_ofW HT_.out HW_.out (by kernel_rfl)) (fun _ _ _ h => h) (Or.inl ⟨by rfl, ?_⟩) hHeld ?_ ?_;rotate_left
                   ·rintro w' ⟨s0, s1, s2, s3, s4, s5⟩
                    go_simp;with_reducible rfl
                   rotate_left
                   ·simp only [Act.put, la_, lb_, lc_, i64_w, i32_w]
                    rfl
                   refine take_ (i := 3) (N := some 45) (v := ?_) (a' := ?_) #[T,T,T,T,F,F,F,F,F,F,F,F] rfl rfl (take_ofW HT_.out HW_.out (by kernel_rfl)) (fun _ _ _ h => h) (Or.inl ⟨by rfl, ?_⟩) hHeld ?_ ?_;rotate_left
                   ·rintro w' ⟨s0, s1, s2, s3, s4, s5⟩
                    go_simp;with_reducible rfl
                   rotate_left
                   ·simp only [Act.put, la_, lb_, lc_, i64_w, i32_w]
                    rfl
                   refine pR_ (i := 4) (N := some 46) #[T,T,T,T,T,F,F,F,F,F,F,F] ?_;refine pR_ (i := 5) (N := some 47) #[T,T,T,T,T,T,F,F,F,F,F,F] ?_;refine pR_ (i := 8) (N := some 50) #[T,T,T,T,T,T,F,F,T,F,F,F] ?_;refine take_ (i := 6) (N := some 48) (v := ?_) (a' := ?_) #[T,T,T,T,T,T,T,F,T,F,F,F] rfl rfl (take_ofW HT_.out HW_.out (by kernel_rfl)) (fun _ _ _ h => h) (Or.inl ⟨by rfl, ?_⟩) hHeld ?_ ?_;rotate_left
                   ·rintro w' ⟨s0, s1, s2, s3, s4, s5⟩
                    go_simp;with_reducible rfl
                   rotate_left
                   ·simp only [Act.put, la_, lb_, lc_, i64_w, i32_w]
                    rfl
                   refine take_ (i := 9) (N := some 51) (v := ?_) (a' := ?_) #[T,T,T,T,T,T,T,F,T,T,F,F] rfl rfl (take_ofW HT_.out HW_.out (by kernel_rfl)) (fun _ _ _ h => h) (Or.inl ⟨by rfl, ?_⟩) hHeld ?_ ?_;rotate_left
                   ·rintro w' ⟨s0, s1, s2, s3, s4, s5⟩
                    go_simp;with_reducible rfl
                   rotate_left
                   ·simp only [Act.put, la_, lb_, lc_, i64_w, i32_w]
                    rfl
                   refine one_ (i := 7) (N := some 49) #[T,T,T,T,T,T,T,T,T,T,F,F] rfl rfl (one_of HT_.out (by kernel_rfl)) (by decide) (fun K hK => ?_);refine gS_ Tryz.func47 #[.agg #[.int .i64 ((rd_T31 y111 x38_3).f0), .int .i64 ((rd_T31 y111 x38_3).f1), .int .i64 ((rd_T31 y111 x38_3).f2)]] ?_
                   with_reducible refine (impl_noteEnd.calls ((rd_T31 y111 x38_3).f0) ((rd_T31 y111 x38_3).f1) ((rd_T31 y111 x38_3).f2) t117 _ A34.out).mono ?_
                   rintro e w41 ⟨rfl, hb⟩;refine ⟨_, rfl, ?_⟩;replace BK107 := M_ (kb_ BK107 hb); replace BK116 := M_ (kb_ BK116 hb); replace HB := M_ (bS_ HB hb);clear hb;refine hK.out _ _ ⟨bc0_ BK116, bc1_ BK116, bc2_ BK116, bc0_ BK107, bc1_ BK107, bc2_ BK107⟩ (fun hHeld => ?_);clear hK K;refine nM_ (some 49) ?_;refine pR_ (i := 10) (N := some 52) #[T,T,T,T,T,T,T,T,T,T,T,F] ?_;refine pR_ (i := 11) (N := some 53) #[T,T,T,T,T,T,T,T,T,T,T,T] ?_;refine done_ (done_of HT_.out (by kernel_rfl)) ?_
                   try go_wp2
                  ·go_ret
                   exact ⟨eR_, bU_ HB⟩
                  ·go_roundg k3
                   case measure => have := HK1.out; have := HJ5.out; have := HK3.out; omega
                   case rel => exact ⟨(wrap64 (x38_3 + 1)), eD_, H', ⟨by have := HK1.out; have := HJ5.out; have := HK3.out; omega⟩, ⟨kU_ BK107⟩, ⟨bU_ HB⟩⟩
                 ·rw [if_neg c33] at H
                  have c33b0 : (((rd_T31 y111 x38_3).f0) == ((rd_T31 l0 x12_1).f0)) = false := beq_eq_false_iff_ne.mpr c33
                  have c33b1 : (((rd_T31 y111 x38_3).f0) != ((rd_T31 l0 x12_1).f0)) = true := bne_iff_ne.mpr c33
                  have H' := M_ H
                  clear H
                  have p115 : 0 ≤ (x38_3 : Int) := dT_
                  have q115 : x38_3 < (y111.length : Int) := dT_
                  obtain ⟨ad115, e115, hx115_0, hx115_1, hx115_2⟩ := at_T31 HR114.out x38_3 p115 q115;obtain rfl : ad106 = ad115 := (by injection e115);replace hx115_0 := (HB.out.cell (World.block_lt_of_cell? w _ hx115_0)).trans hx115_0;replace hx115_1 := (HB.out.cell (World.block_lt_of_cell? w _ hx115_1)).trans hx115_1;replace hx115_2 := (HB.out.cell (World.block_lt_of_cell? w _ hx115_2)).trans hx115_2;replace p115 := eq_true p115;replace q115 := eq_true q115
                  try go_wp2_with (first | ((with_reducible refine gate_dst (N := 6) rfl ?_); refine bx_ (N := 6) (cs := #[.int .i64 0, .int .i64 0, .int .i64 0]) (t := 31) ?_; intro gb116 hg w48 hbox hb; have BK116 := M_ (hbox); have GW116 := M_ (gw_ HB hg); have GE116 := M_ (gw_ HB hg); replace HB := M_ (bS_ HB hb); have NB107_116 := M_ (nb_ BK107 hg); have NB116_107 := M_ ((by rw [hg]; exact Nat.ne_of_gt (blk_lt (kU_ BK107)) : gb116 ≠ gb107)); replace BK107 := M_ (kb_ BK107 hb); clear hb hbox hg; have hnb49 := NB116_107.out; have hnc49 := NB107_116.out; obtain ⟨hcz50_0, hcz50_1, hcz50_2, hfz50_0, hfz50_1, hfz50_2⟩ := bq3_ BK116))
                  have n0_ : Aside0 ((((w48.setCell ⟨gb116, 0, none⟩ (.int .i64 ((rd_T31 y111 x38_3).f0))).setCell ⟨gb116, 1, none⟩ (.int .i64 ((rd_T31 y111 x38_3).f1))).setCell ⟨gb116, 2, none⟩ (.int .i64 ((rd_T31 y111 x38_3).f2))).heap[gb107]? = some (.cells #[.int .i64 ((rd_T31 l0 x12_1).f0), .int .i64 ((rd_T31 l0 x12_1).f1), .int .i64 ((rd_T31 l0 x12_1).f2)] 31 (0, 0))) := ⟨by (with_reducible repeat (first | refine kn_ ?_ _ | refine kd_ ?_ | refine ka_ ?_ _)); refine blk_far ?_ NB107_116.out _; (with_reducible repeat (first | refine kn_ ?_ _ | refine kd_ ?_ | refine ka_ ?_ _)); refine blk_far ?_ NB107_116.out _; (with_reducible repeat (first | refine kn_ ?_ _ | refine kd_ ?_ | refine ka_ ?_ _)); refine blk_far ?_ NB107_116.out _; (with_reducible repeat (first | refine kn_ ?_ _ | refine kd_ ?_ | refine ka_ ?_ _)); exact BK107.out⟩
                  have n1_ : Aside0 ((((w48.setCell ⟨gb116, 0, none⟩ (.int .i64 ((rd_T31 y111 x38_3).f0))).setCell ⟨gb116, 1, none⟩ (.int .i64 ((rd_T31 y111 x38_3).f1))).setCell ⟨gb116, 2, none⟩ (.int .i64 ((rd_T31 y111 x38_3).f2))).heap[gb116]? = some (.cells #[.int .i64 ((rd_T31 y111 x38_3).f0), .int .i64 ((rd_T31 y111 x38_3).f1), .int .i64 ((rd_T31 y111 x38_3).f2)] 31 (0, 0))) := ⟨by (with_reducible repeat (first | refine kn_ ?_ _ | refine kd_ ?_ | refine ka_ ?_ _)); refine blk_put (cs := #[.int .i64 ((rd_T31 y111 x38_3).f0), .int .i64 ((rd_T31 y111 x38_3).f1), .int .i64 0]) ?_ 2 _ rfl; (with_reducible repeat (first | refine kn_ ?_ _ | refine kd_ ?_ | refine ka_ ?_ _)); refine blk_put (cs := #[.int .i64 ((rd_T31 y111 x38_3).f0), .int .i64 0, .int .i64 0]) ?_ 1 _ rfl; (with_reducible repeat (first | refine kn_ ?_ _ | refine kd_ ?_ | refine ka_ ?_ _)); refine blk_put (cs := #[.int .i64 0, .int .i64 0, .int .i64 0]) ?_ 0 _ rfl; (with_reducible repeat (first | refine kn_ ?_ _ | refine kd_ ?_ | refine ka_ ?_ _)); exact BK116.out⟩
                  have n2_ : Aside0 (Below w.heap.size w (((w48.setCell ⟨gb116, 0, none⟩ (.int .i64 ((rd_T31 y111 x38_3).f0))).setCell ⟨gb116, 1, none⟩ (.int .i64 ((rd_T31 y111 x38_3).f1))).setCell ⟨gb116, 2, none⟩ (.int .i64 ((rd_T31 y111 x38_3).f2)))) := ⟨bU_ HB⟩
                  (try clear BK107)
                  (try clear BK116)
                  (try clear HB);generalize (((w48.setCell ⟨gb116, 0, none⟩ (.int .i64 ((rd_T31 y111 x38_3).f0))).setCell ⟨gb116, 1, none⟩ (.int .i64 ((rd_T31 y111 x38_3).f1))).setCell ⟨gb116, 2, none⟩ (.int .i64 ((rd_T31 y111 x38_3).f2))) = w51 at n0_ n1_ n2_ ⊢;have BK107 := n0_;have BK116 := n1_;have HB := n2_;clear n0_ n1_ n2_;replace BK107 := M_ (kd_ BK107.out); replace BK116 := M_ (kd_ BK116.out); replace HB := M_ (b1_ HB.out);refine start_ (n := 12) (S := fun w' => w'.cell? ⟨gb116, 0, none⟩ = some (.int .i64 ((rd_T31 y111 x38_3).f0)) ∧ w'.cell? ⟨gb116, 1, none⟩ = some (.int .i64 ((rd_T31 y111 x38_3).f1)) ∧ w'.cell? ⟨gb116, 2, none⟩ = some (.int .i64 ((rd_T31 y111 x38_3).f2)) ∧ w'.cell? ⟨gb107, 0, none⟩ = some (.int .i64 ((rd_T31 l0 x12_1).f0)) ∧ w'.cell? ⟨gb107, 1, none⟩ = some (.int .i64 ((rd_T31 l0 x12_1).f1)) ∧ w'.cell? ⟨gb107, 2, none⟩ = some (.int .i64 ((rd_T31 l0 x12_1).f2))) (ds := []) #[F,F,F,F,F,F,F,F,F,F,F,F] (by kernel_rfl) rfl rfl ⟨bc0_ BK116, bc1_ BK116, bc2_ BK116, bc0_ BK107, bc1_ BK107, bc2_ BK107⟩ (fun hHeld => ?_); refine with_tabW impl_IsScore.tab11 impl_IsScore.bits11 (fun HT_ HW_ => ?_);generalize w51.drew = w52 at BK107 BK116 HB hHeld ⊢;refine pR_ (i := 0) (N := some 42) #[T,F,F,F,F,F,F,F,F,F,F,F] ?_;refine pR_ (i := 2) (N := some 44) #[T,F,T,F,F,F,F,F,F,F,F,F] ?_;refine take_ (i := 1) (N := some 43) (v := ?_) (a' := ?_) #[T,T,T,F,F,F,F,F,F,F,F,F] rfl rfl (take_ofW HT_.out HW_.out (by kernel_rfl)) (fun _ _ _ h => h) (Or.inl ⟨by rfl, ?_⟩) hHeld ?_ ?_;rotate_left
                  ·rintro w' ⟨s0, s1, s2, s3, s4, s5⟩
                   go_simp;with_reducible rfl
                  rotate_left
                  ·simp only [Act.put, la_, lb_, lc_, i64_w, i32_w]
                   rfl
                  refine take_ (i := 3) (N := some 45) (v := ?_) (a' := ?_) #[T,T,T,T,F,F,F,F,F,F,F,F] rfl rfl (take_ofW HT_.out HW_.out (by kernel_rfl)) (fun _ _ _ h => h) (Or.inl ⟨by rfl, ?_⟩) hHeld ?_ ?_;rotate_left
                  ·rintro w' ⟨s0, s1, s2, s3, s4, s5⟩
                   go_simp;with_reducible rfl
                  rotate_left
                  ·simp only [Act.put, la_, lb_, lc_, i64_w, i32_w]
                   rfl
                  refine pR_ (i := 4) (N := some 46) #[T,T,T,T,T,F,F,F,F,F,F,F] ?_;refine pR_ (i := 5) (N := some 47) #[T,T,T,T,T,T,F,F,F,F,F,F] ?_;refine pV_ (i := 6) (N := some 48) #[T,T,T,T,T,T,T,F,F,F,F,F] ?_;refine pV_ (i := 7) (N := some 49) #[T,T,T,T,T,T,T,T,F,F,F,F] ?_;refine pV_ (i := 8) (N := some 50) #[T,T,T,T,T,T,T,T,T,F,F,F] ?_;refine pV_ (i := 9) (N := some 51) #[T,T,T,T,T,T,T,T,T,T,F,F] ?_;refine pV_ (i := 10) (N := some 52) #[T,T,T,T,T,T,T,T,T,T,T,F] ?_;refine pR_ (i := 11) (N := some 53) #[T,T,T,T,T,T,T,T,T,T,T,T] ?_;refine done_ (done_of HT_.out (by kernel_rfl)) ?_
                  try go_wp2
                  go_roundg k3
                  case measure => have := HK1.out; have := HJ5.out; have := HK3.out; omega
                  case rel => exact ⟨(wrap64 (x38_3 + 1)), eD_, H', ⟨by have := HK1.out; have := HJ5.out; have := HK3.out; omega⟩, ⟨kU_ BK107⟩, ⟨bU_ HB⟩⟩
                ·rw [if_neg c32] at H
                 exact absurd H (by simp)
               ·rw [if_neg c31] at H
                exact absurd H (by simp)
              ·rw [if_neg c30] at H
               have c30b0 : decide (x38_3 < (y111.length : Int)) = false := decide_eq_false c30
               clear c30
               have H' := M_ H
               clear H
               go_wp2
               go_roundg k3
               case measure => have := HK1.out; have := HJ5.out; have := HK3.out; omega
               case rel => exact ⟨(wrap64 (x12_1 + 1)), eD_, H', ⟨by have := HK1.out; have := HJ5.out; have := HK3.out; omega⟩, ⟨bU_ HB⟩⟩
           ·rw [if_neg c28] at H
            exact absurd H (by simp)
          ·rw [if_neg c27] at H
           exact absurd H (by simp)
      ·rw [if_neg c5] at H
       exact absurd H (by simp)
     ·rw [if_neg c4] at H
      exact absurd H (by simp)
    ·rw [if_neg c3] at H
     have c3b0 : decide (x12_1 < (l0.length : Int)) = false := decide_eq_false c3
     clear c3;obtain rfl := Option.some.inj H
     go_wp2
     go_ret
     exact ⟨eR_, bU_ HB⟩
end Go.Proofs.YtfpfjnmjekjnhaaGreatDoor.PFnScores
