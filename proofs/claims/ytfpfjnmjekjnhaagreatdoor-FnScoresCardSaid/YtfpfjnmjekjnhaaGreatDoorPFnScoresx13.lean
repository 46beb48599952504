-- by wip/xprint.py, over the kit's printer
import Derived.Test.YtfpfjnmjekjnhaaGreatDoorPFnScoresx0
import Derived.Test.YtfpfjnmjekjnhaaGreatDoorPFnScoresx3
import Derived.Test.YtfpfjnmjekjnhaaGreatDoorPFnScoresx6
import Derived.Test.YtfpfjnmjekjnhaaGreatDoorPFnScoresx12
namespace Go.Proofs.YtfpfjnmjekjnhaaGreatDoor.PFnScores
open Go.RowKit Go.Proofs.YtfpfjnmjekjnhaaGreatDoorW.PrintWords Go.Proofs.YtfpfjnmjekjnhaaGreatDoorW.PrintLast Go.Proofs.YtfpfjnmjekjnhaaGreatDoorW.PrintMore
attribute [local go_sem] max2_int min2_int max_two min_two max_three min_three max_four min_four   -- for this text's walks alone
set_option linter.unusedVariables false
set_option linter.unusedSimpArgs false

theorem bld_text (s : ByteArray) : Lib.strCells s = Lib.byteCells s.data.toList := rfl
theorem bld_add (x t : ByteArray) : Lib.byteCells x.data.toList ++ Lib.strCells t = Lib.byteCells (x ++ t).data.toList := by
 rw [bld_text, ← Lib.byteCells_append]
 exact congrArg Lib.byteCells (by simp)
theorem bld_size (x : ByteArray) : (Lib.byteCells x.data.toList).length = x.size := by rw [Lib.byteCells_length, Array.length_toList]; rfl
theorem bld_below {T e : TypeId} {B b : Nat} {bs : List Value} {w w' : World} (h : Lib.IsBuilderF T e B b bs w) (hb : Below w.heap.size w w') : Lib.IsBuilderF T e B b bs w' := by
 have key : ∀ p, Lib.BuilderAtF T e B b p bs w → Lib.BuilderAtF T e B b p bs w' := by
  rintro p ⟨hB, v, hh, hown, hne⟩;exact ⟨hB, v, (hb.block b (Array.getElem?_eq_some_iff.1 hh).1).trans hh, hown.kept (grown_of_below hb none) (by cases v.ownBlock <;> simp), hne⟩
 exact h.elim (fun x => .inl (key _ x)) (fun x => .inr (key _ x))
theorem bld_le {T e : TypeId} {B b : Nat} {bs : List Value} {w : World} (h : Lib.IsBuilderF T e B b bs w) : B ≤ w.heap.size := by
 rcases h with ⟨hB, v, hh, -⟩ | ⟨hB, v, hh, -⟩ <;> exact Nat.le_of_lt (Nat.lt_of_le_of_lt hB (Array.getElem?_eq_some_iff.1 hh).1)
def impl_ScoreText.l0 : Nat → ByteArray → List (S31) → Int → Int → Option (ByteArray × Bool)
 | 0, _, _, _, _ => none
 | k + 1, x4, x10, x11, x12 => if x12 < x11 then (if 0 ≤ x12 then (if x12 < (x10.length : Int) then ((impl_pitchName.f ((rd_T31 x10 x12).f0)).bind fun t380 => (if t380.size + 1 ≤ 9223372036854775807 then ((impl_words.f k (([(rd_T31 x10 x12).f1, (rd_T31 x10 x12).f2] : List Int))).bind fun t384 => (if (t380 ++ (⟨#[32]⟩ : ByteArray)).size + t384.size ≤ 9223372036854775807 then (if ((t380 ++ (⟨#[32]⟩ : ByteArray)) ++ t384).size + 1 ≤ 9223372036854775807 then (if x4.size + (((t380 ++ (⟨#[32]⟩ : ByteArray)) ++ t384) ++ (⟨#[10]⟩ : ByteArray)).size ≤ 140737488355328 then (impl_ScoreText.l0 k (x4 ++ (((t380 ++ (⟨#[32]⟩ : ByteArray)) ++ t384) ++ (⟨#[10]⟩ : ByteArray))) x10 x11 (wrap64 (x12 + 1))) else (none)) else (none)) else (none))) else (none))) else (none)) else (none)) else (some (x4, true))
def impl_ScoreText.f (k : Nat) (l0 : List (S31)) : Option (ByteArray × Bool) := (impl_IsScore.f k l0).bind fun t377 => (if t377 = true then (impl_ScoreText.l0 k (⟨#[]⟩ : ByteArray) l0 (l0.length : Int) 0) else (some ((⟨#[]⟩ : ByteArray), false)))
theorem impl_ScoreText.mono_l : ∀ k, (∀ y0 y1 y2 y3, LeO (impl_ScoreText.l0 k y0 y1 y2 y3) (impl_ScoreText.l0 (k + 1) y0 y1 y2 y3))
 | 0 => fun _ _ _ _ r h => by simp [impl_ScoreText.l0] at h
 | k + 1 => by
  have ih0 := impl_ScoreText.mono_l k
  ·intro y0 y1 y2 y3
   unfold impl_ScoreText.l0
   have m0_ := @impl_IsScore.mono;have m1_ := @impl_words.mono;exact mo_
theorem impl_ScoreText.mono : ∀ a0 k, LeO (impl_ScoreText.f k a0) (impl_ScoreText.f (k + 1) a0) := by
 intro a0 k;have ih0 := impl_ScoreText.mono_l k
 unfold impl_ScoreText.f
 have m0_ := @impl_IsScore.mono;have m1_ := @impl_words.mono;exact mo_
def impl_ScoreText.T7 : Bool × List (List Nat × List Nat) := (true, [([], []), ([0], [0]), ([1], [1]), ([2], [2]), ([], []), ([4], [4]), ([], []), ([6], [6]), ([5, 7], [5, 7]), ([8, 2], [8]), ([3, 9], [3, 9]), ([10], [10]), ([11, 9], [11])])
def impl_ScoreText.B7 : List Nat := [0, 1, 3, 7, 0, 16, 0, 64, 240, 503, 1023, 2047, 4095]
theorem impl_ScoreText.tab7 : rtab .any (opsOf Tryz.f28 7) = impl_ScoreText.T7 := by kernel_rfl
theorem impl_ScoreText.bits7 : waitsOk impl_ScoreText.T7.2 impl_ScoreText.B7 = true := by kernel_rfl
set_option maxHeartbeats 8000000 in
set_option maxRecDepth 100000 in
theorem impl_ScoreText.calls (k : Nat) (A0 : Option Addr) (c0 : Nat) (l0 : List (S31)) (r1 : ByteArray) (r2 : Bool) (w : World) (hr0 : Kd.C k31 w A0 l0.length l0) (hc0 : l0.length ≤ c0) (hT : Lib.TabIs Tryz.prog w "internal/strconv.uint64pow10" .u64 Lib.pow10Tab) (h : impl_ScoreText.f k l0 = some (r1, r2)) :
  Calls Tryz.prog 28 #[.slice A0 l0.length c0] w fun e w' => e = .returned (.tuple #[.string r1, .bool r2]) ∧ Below w.heap.size w w' := by
 have hu31 := Tryz.underlying31;have HR0 := M_ hr0;have HC0 := M_ hc0;clear hr0 hc0;have HT := M_ hT;clear hT;have HB := M_ (Below.refl w.heap.size w)
 have H : ((impl_IsScore.f k l0).bind fun t377 => (if t377 = true then (impl_ScoreText.l0 k (⟨#[]⟩ : ByteArray) l0 (l0.length : Int) 0) else (some ((⟨#[]⟩ : ByteArray), false)))) = some (r1, r2) := h
 clear h;replace H := Option.bind_eq_some_iff.mp H;obtain ⟨t377, A20, H⟩ := H;(try dsimp only at H);have A2 := M_ A20;clear A20
 by_cases c3 : t377 = true
 focus
  subst c3
  rw [if_pos rfl] at H
  have H' := M_ H
  clear H
 rotate_left
 focus
  replace c3 := Bool.eq_false_iff.mpr c3
  subst c3
  rw [if_neg (show ¬ (false = true) by decide)] at H
  simp only [Option.some.injEq, Prod.mk.injEq] at H;obtain ⟨rfl, rfl⟩ := H
 rotate_left
 all_goals
  go_enter Tryz.func28, Tryz.ntmps28
  go_wp2_with (first | ((with_reducible refine gc_ 10 ?_); refine gM_ (some 8) Tryz.func10 #[.slice A0 l0.length c0] ?_; (with_reducible refine (impl_IsScore.calls k _ _ l0 _ _ ?side1 ?side2 A2.out).mono ?_); (case side1 => exact cU_ HR0.out); (case side2 => exact HC0.out); rintro e w4 ⟨rfl, hb⟩; refine ⟨_, rfl, ?_⟩; replace HB := M_ (bS_ HB hb); clear hb))
 ·have HI := M_ (Lib.IsBuilderF.of (Lib.fresh_isBuilder 82 5 w4));have HGE := M_ (below_size HB.out)
  go_loopg [12] k (fun kq v12 w' => ∃ (x4_1 : ByteArray) (x12_1 : Int), v12 = .int .i64 x12_1 ∧ Aside0 (impl_ScoreText.l0 kq x4_1 l0 (l0.length : Int) x12_1 = some (r1, r2)) ∧ Aside0 (kq ≤ k) ∧ Aside0 (Lib.IsBuilderF 82 5 w4.heap.size w4.heap.size (Lib.byteCells (x4_1).data.toList) w') ∧ Aside0 (Below w.heap.size w w'))
  case atStart => exact ⟨((⟨#[]⟩ : ByteArray)), (0), eD_, H', ⟨Nat.le_refl _⟩, HI, ⟨bU_ HB⟩⟩
  case round =>
   clear H' HI HB;obtain ⟨x4_1, x12_1, rfl, HA, HK1, HI, HB⟩ := hrel
   cases gk with
   | zero => exact absurd HA.out (by simp [impl_ScoreText.l0])
   | succ k1 =>
    have H := HA.out;clear HA;simp only [impl_ScoreText.l0] at H
    by_cases c5 : x12_1 < (l0.length : Int)
    ·rw [if_pos c5] at H
     have c5b0 : decide (x12_1 < (l0.length : Int)) = true := decide_eq_true c5
     clear c5
     by_cases c6 : 0 ≤ x12_1
     ·rw [if_pos c6] at H
      have c6b0 : decide (0 ≤ x12_1) = true := decide_eq_true c6
      clear c6
      by_cases c7 : x12_1 < (l0.length : Int)
      ·rw [if_pos c7] at H
       have c7b0 : decide (x12_1 < (l0.length : Int)) = true := decide_eq_true c7
       clear c7;replace H := Option.bind_eq_some_iff.mp H;obtain ⟨t380, A80, H⟩ := H;(try dsimp only at H);have A8 := M_ A80;clear A80
       by_cases c9 : t380.size + 1 ≤ 9223372036854775807
       ·rw [if_pos c9] at H
        have c9b0 := eq_true c9
        have c9b1 : decide (t380.size + 1 ≤ 9223372036854775807) = true := decide_eq_true c9
        try have c9b2 : (9223372036854775807 < t380.size + 1) = False := eq_false (Nat.not_lt.2 c9)
        obtain ⟨y381, hy381⟩ : ∃ y_ : List Int, y_ = (([(rd_T31 l0 x12_1).f1, (rd_T31 l0 x12_1).f2] : List Int)) := ⟨_, rfl⟩
        replace H : ((impl_words.f k1 y381).bind fun t384 => (if (t380 ++ (⟨#[32]⟩ : ByteArray)).size + t384.size ≤ 9223372036854775807 then (if ((t380 ++ (⟨#[32]⟩ : ByteArray)) ++ t384).size + 1 ≤ 9223372036854775807 then (if x4_1.size + (((t380 ++ (⟨#[32]⟩ : ByteArray)) ++ t384) ++ (⟨#[10]⟩ : ByteArray)).size ≤ 140737488355328 then (impl_ScoreText.l0 k1 (x4_1 ++ (((t380 ++ (⟨#[32]⟩ : ByteArray)) ++ t384) ++ (⟨#[10]⟩ : ByteArray))) l0 (l0.length : Int) (wrap64 (x12_1 + 1))) else (none)) else (none)) else (none))) = some (r1, r2) := by first | (rw [hy381]; with_reducible exact H) | (have H2_ := (Option.bind_some _ _).symm.trans H; rw [hy381]; with_reducible exact H2_) | (have H2_ := (Option.bind_some _ _).symm.trans H; with_reducible exact H2_) | with_reducible exact H | (rw [hy381]; exact H) | exact H
        have Ny381 := M_ hy381;clear hy381;replace H := Option.bind_eq_some_iff.mp H;obtain ⟨t384, A100, H⟩ := H;(try dsimp only at H);have A10 := M_ A100;clear A100
        by_cases c11 : (t380 ++ (⟨#[32]⟩ : ByteArray)).size + t384.size ≤ 9223372036854775807
        ·rw [if_pos c11] at H
         have c11b0 := eq_true c11
         have c11b1 : decide ((t380 ++ (⟨#[32]⟩ : ByteArray)).size + t384.size ≤ 9223372036854775807) = true := decide_eq_true c11
         try have c11b2 : (9223372036854775807 < (t380 ++ (⟨#[32]⟩ : ByteArray)).size + t384.size) = False := eq_false (Nat.not_lt.2 c11)
         have c11s := c11
         try simp only [ByteArray.size_append, show (⟨#[32]⟩ : ByteArray).size = 1 from rfl] at c11s
         have c11s0 := eq_true c11s;have c11s1 := decide_eq_true c11s
         try have c11s2 := eq_false (Nat.not_lt.2 c11s)
         by_cases c12 : ((t380 ++ (⟨#[32]⟩ : ByteArray)) ++ t384).size + 1 ≤ 9223372036854775807
         ·rw [if_pos c12] at H
          have c12b0 := eq_true c12
          have c12b1 : decide (((t380 ++ (⟨#[32]⟩ : ByteArray)) ++ t384).size + 1 ≤ 9223372036854775807) = true := decide_eq_true c12
          try have c12b2 : (9223372036854775807 < ((t380 ++ (⟨#[32]⟩ : ByteArray)) ++ t384).size + 1) = False := eq_false (Nat.not_lt.2 c12)
          have c12s := c12
          try simp only [ByteArray.size_append, show (⟨#[32]⟩ : ByteArray).size = 1 from rfl] at c12s
          have c12s0 := eq_true c12s;have c12s1 := decide_eq_true c12s
          try have c12s2 := eq_false (Nat.not_lt.2 c12s)
          by_cases c13 : x4_1.size + (((t380 ++ (⟨#[32]⟩ : ByteArray)) ++ t384) ++ (⟨#[10]⟩ : ByteArray)).size ≤ 140737488355328
          ·rw [if_pos c13] at H
           have c13b0 := eq_true c13
           have c13b1 : decide (x4_1.size + (((t380 ++ (⟨#[32]⟩ : ByteArray)) ++ t384) ++ (⟨#[10]⟩ : ByteArray)).size ≤ 140737488355328) = true := decide_eq_true c13
           try have c13b2 : (9223372036854775807 < x4_1.size + (((t380 ++ (⟨#[32]⟩ : ByteArray)) ++ t384) ++ (⟨#[10]⟩ : ByteArray)).size) = False := eq_false (Nat.not_lt.2 c13)
           have HLEN := M_ (show (Lib.byteCells x4_1.data.toList).length + (((t380 ++ (⟨#[32]⟩ : ByteArray)) ++ t384) ++ (⟨#[10]⟩ : ByteArray)).size ≤ 140737488355328 by rw [bld_size]; exact c13);have c13s := c13
           try simp only [ByteArray.size_append, show (⟨#[10]⟩ : ByteArray).size = 1 from rfl, show (⟨#[32]⟩ : ByteArray).size = 1 from rfl] at c13s
           have c13s0 := eq_true c13s;have c13s1 := decide_eq_true c13s
           try have c13s2 := eq_false (Nat.not_lt.2 c13s)
           have H' := M_ H
           clear H
           have p378 : 0 ≤ (x12_1 : Int) := dT_
           have q378 : x12_1 < (l0.length : Int) := dT_
           obtain ⟨ad378, e378, hx378_0, hx378_1, hx378_2⟩ := at_T31 HR0.out x12_1 p378 q378;cases e378;replace hx378_0 := (HB.out.cell (World.block_lt_of_cell? w _ hx378_0)).trans hx378_0;replace hx378_1 := (HB.out.cell (World.block_lt_of_cell? w _ hx378_1)).trans hx378_1;replace hx378_2 := (HB.out.cell (World.block_lt_of_cell? w _ hx378_2)).trans hx378_2;replace p378 := eq_true p378;replace q378 := eq_true q378
           try go_wp2_with (first | ((with_reducible refine gate_dst (N := 6) rfl ?_); refine bx_ (N := 6) (cs := #[.int .i64 0, .int .i64 0, .int .i64 0]) (t := 31) ?_; intro gb379 hg w14 hbox hb; have HBX := M_ hb; have HGX := M_ hg; have BK379 := M_ (hbox); have GW379 := M_ (gw_ HB hg); have GE379 := M_ (gw_ HB hg); replace HB := M_ (bS_ HB hb); clear hb hbox hg; obtain ⟨hcz15_0, hcz15_1, hcz15_2, hfz15_0, hfz15_1, hfz15_2⟩ := bq3_ BK379))
           have n0_ : Aside0 ((((w14.setCell ⟨gb379, 0, none⟩ (.int .i64 ((rd_T31 l0 x12_1).f0))).setCell ⟨gb379, 1, none⟩ (.int .i64 ((rd_T31 l0 x12_1).f1))).setCell ⟨gb379, 2, none⟩ (.int .i64 ((rd_T31 l0 x12_1).f2))).heap[gb379]? = some (.cells #[.int .i64 ((rd_T31 l0 x12_1).f0), .int .i64 ((rd_T31 l0 x12_1).f1), .int .i64 ((rd_T31 l0 x12_1).f2)] 31 (0, 0))) := ⟨by (with_reducible repeat (first | refine kn_ ?_ _ | refine kd_ ?_ | refine ka_ ?_ _)); refine blk_put (cs := #[.int .i64 ((rd_T31 l0 x12_1).f0), .int .i64 ((rd_T31 l0 x12_1).f1), .int .i64 0]) ?_ 2 _ rfl; (with_reducible repeat (first | refine kn_ ?_ _ | refine kd_ ?_ | refine ka_ ?_ _)); refine blk_put (cs := #[.int .i64 ((rd_T31 l0 x12_1).f0), .int .i64 0, .int .i64 0]) ?_ 1 _ rfl; (with_reducible repeat (first | refine kn_ ?_ _ | refine kd_ ?_ | refine ka_ ?_ _)); refine blk_put (cs := #[.int .i64 0, .int .i64 0, .int .i64 0]) ?_ 0 _ rfl; (with_reducible repeat (first | refine kn_ ?_ _ | refine kd_ ?_ | refine ka_ ?_ _)); exact BK379.out⟩
           have n1_ : Aside0 (Below w.heap.size w (((w14.setCell ⟨gb379, 0, none⟩ (.int .i64 ((rd_T31 l0 x12_1).f0))).setCell ⟨gb379, 1, none⟩ (.int .i64 ((rd_T31 l0 x12_1).f1))).setCell ⟨gb379, 2, none⟩ (.int .i64 ((rd_T31 l0 x12_1).f2)))) := ⟨bU_ HB⟩
           have n2_ : Aside0 (Lib.IsBuilderF 82 5 w4.heap.size w4.heap.size (Lib.byteCells (x4_1).data.toList) (((w14.setCell ⟨gb379, 0, none⟩ (.int .i64 ((rd_T31 l0 x12_1).f0))).setCell ⟨gb379, 1, none⟩ (.int .i64 ((rd_T31 l0 x12_1).f1))).setCell ⟨gb379, 2, none⟩ (.int .i64 ((rd_T31 l0 x12_1).f2)))) := ⟨bld_below HI.out (bs_ (bs_ (bs_ (HBX.out) (by rw [HGX.out]; exact Nat.le_refl _)) (by rw [HGX.out]; exact Nat.le_refl _)) (by rw [HGX.out]; exact Nat.le_refl _))⟩
           (try clear BK379)
           (try clear HB)
           (try clear HI);generalize (((w14.setCell ⟨gb379, 0, none⟩ (.int .i64 ((rd_T31 l0 x12_1).f0))).setCell ⟨gb379, 1, none⟩ (.int .i64 ((rd_T31 l0 x12_1).f1))).setCell ⟨gb379, 2, none⟩ (.int .i64 ((rd_T31 l0 x12_1).f2))) = w16 at n0_ n1_ n2_ ⊢;have BK379 := n0_;have HB := n1_;have HI := n2_;clear n0_ n1_ n2_;replace BK379 := M_ (kd_ BK379.out); replace HB := M_ (b1_ HB.out); replace HI := M_ (bld_below HI.out (b1_ (Below.refl _ _)));refine start_ (n := 13) (S := fun w' => True) (ds := []) #[F,F,F,F,F,F,F,F,F,F,F,F,F] (by kernel_rfl) rfl rfl trivial (fun hHeld => ?_); refine with_tabW impl_ScoreText.tab7 impl_ScoreText.bits7 (fun HT_ HW_ => ?_);generalize w16.drew = w17 at BK379 HB HI hHeld ⊢;refine pR_ (i := 0) (N := some 16) #[T,F,F,F,F,F,F,F,F,F,F,F,F] ?_;refine pR_ (i := 4) (N := some 20) #[T,F,F,F,T,F,F,F,F,F,F,F,F] ?_;refine pR_ (i := 6) (N := some 22) #[T,F,F,F,T,F,T,F,F,F,F,F,F] ?_;refine inv_at [1, 2, 3, 5, 7, 8, 9, 10, 11, 12] (fun a0_ b a w' => ∃ (v382 : Value), a = putSel a0_ b [(1, 17, .int .i64 ((rd_T31 l0 x12_1).f0)), (2, 18, .string t380), (3, 19, .string (t380 ++ (⟨#[32]⟩ : ByteArray))), (5, 21, .int .i64 ((rd_T31 l0 x12_1).f1)), (7, 23, .int .i64 ((rd_T31 l0 x12_1).f2)), (8, 24, v382), (9, 25, .string t384), (10, 26, .string ((t380 ++ (⟨#[32]⟩ : ByteArray)) ++ t384)), (11, 27, .string (((t380 ++ (⟨#[32]⟩ : ByteArray)) ++ t384) ++ (⟨#[10]⟩ : ByteArray))), (12, 28, .tuple #[.int .i64 (((t380 ++ (⟨#[32]⟩ : ByteArray)) ++ t384) ++ (⟨#[10]⟩ : ByteArray)).size, .nilIface])] ∧ (b 12 = false → (w'.heap[gb379]? = some (.cells #[.int .i64 ((rd_T31 l0 x12_1).f0), .int .i64 ((rd_T31 l0 x12_1).f1), .int .i64 ((rd_T31 l0 x12_1).f2)] 31 (0, 0)))) ∧ (Below w.heap.size w w') ∧ (b 12 = false → (b 8 = true → Kd.R (Kd.int .i64) 3 w' w.heap.size (fun _ => True) v382 y381)) ∧ (b 12 = false → Lib.IsBuilderF 82 5 w4.heap.size w4.heap.size (Lib.byteCells (x4_1).data.toList) w') ∧ (b 12 = true → Lib.IsBuilderF 82 5 w4.heap.size w4.heap.size (Lib.byteCells (x4_1 ++ (((t380 ++ (⟨#[32]⟩ : ByteArray)) ++ t384) ++ (⟨#[10]⟩ : ByteArray))).data.toList) w')) HT_.out HW_.out (by kernel_rfl) (by kernel_rfl) ?_ ?_ ?_
           ·exact ⟨.bool false, by simp only [putSel, Bool.false_eq_true, if_false], fun _ => BK379.out, HB.out, fun _ => fun h_ => absurd h_ (by decide), fun _ => HI.out, fun h_ => absurd h_ (by decide)⟩
           ·skip
            clear BK379 HB HI;refine steps_cons ?_ ?_
            ·rintro b a w' ⟨v382, ha, q_BK, Q_HB, q_HO, q_HI, q_HJ⟩ hb_ hon hoff
             refine ⟨_, rfl, fun K hK => ?_⟩
             have e16 : a.tmps[16]? = some (.pointer (some ⟨gb379, 0, none⟩)) := by rw [ha]; exact (putSel_off rfl).trans rfl
             replace ha := M_ ha;have Q_BK379 := q_BK (hoff 12 (by kernel_rfl));have Q_HO383 := q_HO (hoff 12 (by kernel_rfl));have Q_HI := q_HI (hoff 12 (by kernel_rfl));clear q_BK q_HO q_HI q_HJ;have BK379 := M_ Q_BK379;have HB := M_ Q_HB
             have hc0_ : w'.cell? ⟨gb379, 0, none⟩ = some (.int .i64 ((rd_T31 l0 x12_1).f0)) := bc0_ BK379
             have hc1_ : w'.cell? ⟨gb379, 1, none⟩ = some (.int .i64 ((rd_T31 l0 x12_1).f1)) := bc1_ BK379
             have hc2_ : w'.cell? ⟨gb379, 2, none⟩ = some (.int .i64 ((rd_T31 l0 x12_1).f2)) := bc2_ BK379
             refine value_ (w1 := w') (v := .int .i64 ((rd_T31 l0 x12_1).f0)) (by rfl) rfl ?_ ?_
             ·go_simp
              (try simp only [i64_w])
              try rfl
              all_goals (try omega)
             refine hK.out _ _ ⟨v382, (by rw [ha.out]; exact putSel_upk 0 hb_ rfl rfl rfl), fun _ => Q_BK379, Q_HB, fun _ => Q_HO383, fun _ => Q_HI, fun h_ => absurd ((hoff 12 (by kernel_rfl)).symm.trans h_) (by decide)⟩
            refine steps_cons ?_ ?_
            ·rintro b a w' ⟨v382, ha, q_BK, Q_HB, q_HO, q_HI, q_HJ⟩ hb_ hon hoff
             refine ⟨_, rfl, fun K hK => ?_⟩
             have e17 : a.tmps[17]? = some (.int .i64 ((rd_T31 l0 x12_1).f0)) := by rw [ha]; exact putSel_on (e := (1, 17, .int .i64 ((rd_T31 l0 x12_1).f0))) 0 rfl rfl (hon 1 (by kernel_rfl)) rfl
             replace ha := M_ ha;have Q_BK379 := q_BK (hoff 12 (by kernel_rfl));have Q_HO383 := q_HO (hoff 12 (by kernel_rfl));have Q_HI := q_HI (hoff 12 (by kernel_rfl));clear q_BK q_HO q_HI q_HJ;have BK379 := M_ Q_BK379;have HB := M_ Q_HB;refine goes_ Tryz.func55 (by kernel_rfl) rfl #[.int .i64 ((rd_T31 l0 x12_1).f0)] (by rfl) rfl rfl (by first | (simp only [List.map_toArray, List.map_cons, List.map_nil, Act.eval, Array.getD_eq_getD_getElem?, Option.getD_some, e17]; done) | (simp only [List.map_toArray, List.map_cons, List.map_nil, Act.eval, Array.getD_eq_getD_getElem?, Option.getD_some, e17]; rfl)) ?_
             with_reducible refine (impl_pitchName.calls ((rd_T31 l0 x12_1).f0) t380 _ A8.out).mono ?_
             rintro e w18 ⟨rfl, hb⟩;refine ⟨_, rfl, ?_⟩;have Z_HI := bld_below Q_HI hb;have n0_ := M_ (kb_ BK379 hb);have n1_ := M_ (bS_ HB hb)
             have z_HO383 := fun (h0_ : b 8 = true) => (show Kd.R (Kd.int .i64) 3 w18 w.heap.size (fun _ => True) v382 y381 from by first | exact (rb_ (rU_ ((Q_HO383 h0_))) hb) | exact rm_ (rb_ (rU_ ((Q_HO383 h0_))) hb) (fun _ h_ => by first | trivial | exact h_ | exact h_.1))
             clear BK379;clear HB;have BK379 := n0_;have HB := n1_;clear n0_ n1_;clear hb;refine hK.out _ _ ⟨v382, (by rw [ha.out]; exact putSel_upk 1 hb_ rfl rfl rfl), fun _ => (kU_ BK379), (bU_ HB), fun _ => z_HO383, fun _ => Z_HI, fun h_ => absurd ((hoff 12 (by kernel_rfl)).symm.trans h_) (by decide)⟩
            refine steps_cons ?_ ?_
            ·rintro b a w' ⟨v382, ha, q_BK, Q_HB, q_HO, q_HI, q_HJ⟩ hb_ hon hoff
             refine ⟨_, rfl, fun K hK => ?_⟩
             have e18 : a.tmps[18]? = some (.string t380) := by rw [ha]; exact putSel_on (e := (2, 18, .string t380)) 1 rfl rfl (hon 2 (by kernel_rfl)) rfl
             replace ha := M_ ha;have Q_BK379 := q_BK (hoff 12 (by kernel_rfl));have Q_HO383 := q_HO (hoff 12 (by kernel_rfl));have Q_HI := q_HI (hoff 12 (by kernel_rfl));clear q_BK q_HO q_HI q_HJ;have BK379 := M_ Q_BK379;have HB := M_ Q_HB;refine value_ (w1 := w') (v := .string (t380 ++ (⟨#[32]⟩ : ByteArray))) (by rfl) rfl ?_ ?_
             ·go_simp
              (try simp only [i64_w])
              try rfl
              all_goals (try omega)
             refine hK.out _ _ ⟨v382, (by rw [ha.out]; exact putSel_upk 2 hb_ rfl rfl rfl), fun _ => Q_BK379, Q_HB, fun _ => Q_HO383, fun _ => Q_HI, fun h_ => absurd ((hoff 12 (by kernel_rfl)).symm.trans h_) (by decide)⟩
            refine steps_cons ?_ ?_
            ·rintro b a w' ⟨v382, ha, q_BK, Q_HB, q_HO, q_HI, q_HJ⟩ hb_ hon hoff
             refine ⟨_, rfl, fun K hK => ?_⟩
             have e20 : a.tmps[20]? = some (.pointer (some ⟨gb379, 1, none⟩)) := by rw [ha]; exact (putSel_off rfl).trans rfl
             replace ha := M_ ha;have Q_BK379 := q_BK (hoff 12 (by kernel_rfl));have Q_HO383 := q_HO (hoff 12 (by kernel_rfl));have Q_HI := q_HI (hoff 12 (by kernel_rfl));clear q_BK q_HO q_HI q_HJ;have BK379 := M_ Q_BK379;have HB := M_ Q_HB
             have hc0_ : w'.cell? ⟨gb379, 0, none⟩ = some (.int .i64 ((rd_T31 l0 x12_1).f0)) := bc0_ BK379
             have hc1_ : w'.cell? ⟨gb379, 1, none⟩ = some (.int .i64 ((rd_T31 l0 x12_1).f1)) := bc1_ BK379
             have hc2_ : w'.cell? ⟨gb379, 2, none⟩ = some (.int .i64 ((rd_T31 l0 x12_1).f2)) := bc2_ BK379
             refine value_ (w1 := w') (v := .int .i64 ((rd_T31 l0 x12_1).f1)) (by rfl) rfl ?_ ?_
             ·go_simp
              (try simp only [i64_w])
              try rfl
              all_goals (try omega)
             refine hK.out _ _ ⟨v382, (by rw [ha.out]; exact putSel_upk 3 hb_ rfl rfl rfl), fun _ => Q_BK379, Q_HB, fun _ => fun h0_ => absurd ((hoff 8 (by kernel_rfl)).symm.trans h0_) (by decide), fun _ => Q_HI, fun h_ => absurd ((hoff 12 (by kernel_rfl)).symm.trans h_) (by decide)⟩
            refine steps_cons ?_ ?_
            ·rintro b a w' ⟨v382, ha, q_BK, Q_HB, q_HO, q_HI, q_HJ⟩ hb_ hon hoff
             refine ⟨_, rfl, fun K hK => ?_⟩
             have e22 : a.tmps[22]? = some (.pointer (some ⟨gb379, 2, none⟩)) := by rw [ha]; exact (putSel_off rfl).trans rfl
             replace ha := M_ ha;have Q_BK379 := q_BK (hoff 12 (by kernel_rfl));have Q_HO383 := q_HO (hoff 12 (by kernel_rfl));have Q_HI := q_HI (hoff 12 (by kernel_rfl));clear q_BK q_HO q_HI q_HJ;have BK379 := M_ Q_BK379;have HB := M_ Q_HB
             have hc0_ : w'.cell? ⟨gb379, 0, none⟩ = some (.int .i64 ((rd_T31 l0 x12_1).f0)) := bc0_ BK379
             have hc1_ : w'.cell? ⟨gb379, 1, none⟩ = some (.int .i64 ((rd_T31 l0 x12_1).f1)) := bc1_ BK379
             have hc2_ : w'.cell? ⟨gb379, 2, none⟩ = some (.int .i64 ((rd_T31 l0 x12_1).f2)) := bc2_ BK379
             refine value_ (w1 := w') (v := .int .i64 ((rd_T31 l0 x12_1).f2)) (by rfl) rfl ?_ ?_
             ·go_simp
              (try simp only [i64_w])
              try rfl
              all_goals (try omega)
             refine hK.out _ _ ⟨v382, (by rw [ha.out]; exact putSel_upk 4 hb_ rfl rfl rfl), fun _ => Q_BK379, Q_HB, fun _ => fun h0_ => absurd ((hoff 8 (by kernel_rfl)).symm.trans h0_) (by decide), fun _ => Q_HI, fun h_ => absurd ((hoff 12 (by kernel_rfl)).symm.trans h_) (by decide)⟩
            refine steps_cons ?_ ?_
            ·rintro b a w' ⟨v382, ha, q_BK, Q_HB, q_HO, q_HI, q_HJ⟩ hb_ hon hoff
             refine ⟨_, rfl, fun K hK => ?_⟩
             have e21 : a.tmps[21]? = some (.int .i64 ((rd_T31 l0 x12_1).f1)) := by rw [ha]; exact putSel_on (e := (5, 21, .int .i64 ((rd_T31 l0 x12_1).f1))) 3 rfl rfl (hon 5 (by kernel_rfl)) rfl
             have e23 : a.tmps[23]? = some (.int .i64 ((rd_T31 l0 x12_1).f2)) := by rw [ha]; exact putSel_on (e := (7, 23, .int .i64 ((rd_T31 l0 x12_1).f2))) 4 rfl rfl (hon 7 (by kernel_rfl)) rfl
             replace ha := M_ ha;have Q_BK379 := q_BK (hoff 12 (by kernel_rfl));have Q_HO383 := q_HO (hoff 12 (by kernel_rfl));have Q_HI := q_HI (hoff 12 (by kernel_rfl));clear q_BK q_HO q_HI q_HJ;have BK379 := M_ Q_BK379;have HB := M_ Q_HB;refine ls_ (Kd.int .i64) 3 (N := 24) (([(rd_T31 l0 x12_1).f1, (rd_T31 l0 x12_1).f2] : List Int)) [.int .i64 ((rd_T31 l0 x12_1).f1), .int .i64 ((rd_T31 l0 x12_1).f2)] ri_ ?_;intro v382 w18 ho19 hb hg_ hnew_;have Z_HI := bld_below Q_HI hb;clear hg_ hnew_
             (first | rw [← Ny381.out] at ho19 | (simp only [Int.reduceToNat] at ho19; rw [← Ny381.out] at ho19))
             have HO383 := M_ (Kd.R_lower ho19 (bZ_ HB)); replace BK379 := M_ (kb_ BK379 hb); replace HB := M_ (bS_ HB hb);clear hb ho19;refine hK.out _ _ ⟨v382, (by rw [ha.out]; exact putSel_upk 5 hb_ rfl rfl rfl), fun _ => (kU_ BK379), (bU_ HB), fun _ => fun _ => (rU_ HO383.out), fun _ => Z_HI, fun h_ => absurd ((hoff 12 (by kernel_rfl)).symm.trans h_) (by decide)⟩
            refine steps_cons ?_ ?_
            ·rintro b a w' ⟨v382, ha, q_BK, Q_HB, q_HO, q_HI, q_HJ⟩ hb_ hon hoff
             refine ⟨_, rfl, fun K hK => ?_⟩
             have e24 : a.tmps[24]? = some (v382) := by rw [ha]; exact putSel_on (e := (8, 24, v382)) 5 rfl rfl (hon 8 (by kernel_rfl)) rfl
             replace ha := M_ ha;have Q_BK379 := q_BK (hoff 12 (by kernel_rfl));have Q_HO383 := q_HO (hoff 12 (by kernel_rfl));have Q_HI := q_HI (hoff 12 (by kernel_rfl));clear q_BK q_HO q_HI q_HJ;have BK379 := M_ Q_BK379;have HB := M_ Q_HB;have HO383 := M_ (Q_HO383 (hon 8 (by kernel_rfl)));obtain ⟨Ao22, co22, eo22⟩ := Kd.R_slice HO383.out
             (first | subst eo22 | (injection eo22 with f1_ f2_ f3_; have f4_ := f1_.symm; have f5_ := f3_.symm; clear f1_ f2_ f3_; subst f4_; subst f5_))
             refine goes_ Tryz.func71 (by kernel_rfl) rfl #[.slice Ao22 y381.length co22] (by rfl) rfl rfl (by first | (simp only [List.map_toArray, List.map_cons, List.map_nil, Act.eval, Array.getD_eq_getD_getElem?, Option.getD_some, e24]; done) | (simp only [List.map_toArray, List.map_cons, List.map_nil, Act.eval, Array.getD_eq_getD_getElem?, Option.getD_some, e24]; rfl)) ?_
             with_reducible refine (impl_words.calls k1 _ _ y381 t384 _ ?side1 ?side2 (tab_below_ HT.out HB.out) A10.out).mono ?_
             (case side1 => exact cU_ (Kd.R_reads' HO383.out).2.2)
             (case side2 => exact (Kd.R_reads' HO383.out).2.1)
             rintro e w23 ⟨rfl, hb⟩;refine ⟨_, rfl, ?_⟩;have Z_HI := bld_below Q_HI hb;replace HO383 := M_ (rB_ HO383 hb); replace BK379 := M_ (kb_ BK379 hb); replace HB := M_ (bS_ HB hb);clear hb;refine hK.out _ _ ⟨.slice Ao22 y381.length co22, (by rw [ha.out]; exact putSel_upk 6 hb_ rfl rfl rfl), fun _ => (kU_ BK379), (bU_ HB), fun _ => fun _ => (rU_ HO383.out), fun _ => Z_HI, fun h_ => absurd ((hoff 12 (by kernel_rfl)).symm.trans h_) (by decide)⟩
            refine steps_cons ?_ ?_
            ·rintro b a w' ⟨v382, ha, q_BK, Q_HB, q_HO, q_HI, q_HJ⟩ hb_ hon hoff
             refine ⟨_, rfl, fun K hK => ?_⟩
             have e19 : a.tmps[19]? = some (.string (t380 ++ (⟨#[32]⟩ : ByteArray))) := by rw [ha]; exact putSel_on (e := (3, 19, .string (t380 ++ (⟨#[32]⟩ : ByteArray)))) 2 rfl rfl (hon 3 (by kernel_rfl)) rfl
             have e25 : a.tmps[25]? = some (.string t384) := by rw [ha]; exact putSel_on (e := (9, 25, .string t384)) 6 rfl rfl (hon 9 (by kernel_rfl)) rfl
             replace ha := M_ ha;have Q_BK379 := q_BK (hoff 12 (by kernel_rfl));have Q_HO383 := q_HO (hoff 12 (by kernel_rfl));have Q_HI := q_HI (hoff 12 (by kernel_rfl));clear q_BK q_HO q_HI q_HJ;have BK379 := M_ Q_BK379;have HB := M_ Q_HB;have HO383 := M_ (Q_HO383 (hon 8 (by kernel_rfl)));refine value_ (w1 := w') (v := .string ((t380 ++ (⟨#[32]⟩ : ByteArray)) ++ t384)) (by rfl) rfl ?_ ?_
             ·go_simp
              (try simp only [i64_w])
              try rfl
              all_goals (try omega)
             refine hK.out _ _ ⟨v382, (by rw [ha.out]; exact putSel_upk 7 hb_ rfl rfl rfl), fun _ => Q_BK379, Q_HB, fun _ => Q_HO383, fun _ => Q_HI, fun h_ => absurd ((hoff 12 (by kernel_rfl)).symm.trans h_) (by decide)⟩
            refine steps_cons ?_ ?_
            ·rintro b a w' ⟨v382, ha, q_BK, Q_HB, q_HO, q_HI, q_HJ⟩ hb_ hon hoff
             refine ⟨_, rfl, fun K hK => ?_⟩
             have e26 : a.tmps[26]? = some (.string ((t380 ++ (⟨#[32]⟩ : ByteArray)) ++ t384)) := by rw [ha]; exact putSel_on (e := (10, 26, .string ((t380 ++ (⟨#[32]⟩ : ByteArray)) ++ t384))) 7 rfl rfl (hon 10 (by kernel_rfl)) rfl
             replace ha := M_ ha;have Q_BK379 := q_BK (hoff 12 (by kernel_rfl));have Q_HO383 := q_HO (hoff 12 (by kernel_rfl));have Q_HI := q_HI (hoff 12 (by kernel_rfl));clear q_BK q_HO q_HI q_HJ;have BK379 := M_ Q_BK379;have HB := M_ Q_HB;have HO383 := M_ (Q_HO383 (hon 8 (by kernel_rfl)));refine value_ (w1 := w') (v := .string (((t380 ++ (⟨#[32]⟩ : ByteArray)) ++ t384) ++ (⟨#[10]⟩ : ByteArray))) (by rfl) rfl ?_ ?_
             ·go_simp
              (try simp only [i64_w])
              try rfl
              all_goals (try omega)
             refine hK.out _ _ ⟨v382, (by rw [ha.out]; exact putSel_upk 8 hb_ rfl rfl rfl), fun _ => Q_BK379, Q_HB, fun _ => Q_HO383, fun _ => Q_HI, fun h_ => absurd ((hoff 12 (by kernel_rfl)).symm.trans h_) (by decide)⟩
            refine steps_cons ?_ ?_
            ·rintro b a w' ⟨v382, ha, q_BK, Q_HB, q_HO, q_HI, q_HJ⟩ hb_ hon hoff
             refine ⟨_, rfl, fun K hK => ?_⟩
             have e4 : a.tmps[4]? = some (.pointer (some ⟨w4.heap.size, 0, none⟩)) := by rw [ha]; exact (putSel_off rfl).trans rfl
             have e27 : a.tmps[27]? = some (.string (((t380 ++ (⟨#[32]⟩ : ByteArray)) ++ t384) ++ (⟨#[10]⟩ : ByteArray))) := by rw [ha]; exact putSel_on (e := (11, 27, .string (((t380 ++ (⟨#[32]⟩ : ByteArray)) ++ t384) ++ (⟨#[10]⟩ : ByteArray)))) 8 rfl rfl (hon 11 (by kernel_rfl)) rfl
             replace ha := M_ ha;have Q_HI := q_HI hb_;clear q_BK q_HO q_HI q_HJ;refine goes_ Tryz.func70 (by kernel_rfl) rfl #[.pointer (some ⟨w4.heap.size, 0, none⟩), .string (((t380 ++ (⟨#[32]⟩ : ByteArray)) ++ t384) ++ (⟨#[10]⟩ : ByteArray))] (by rfl) rfl rfl (by first | (simp only [List.map_toArray, List.map_cons, List.map_nil, Act.eval, Array.getD_eq_getD_getElem?, Option.getD_some, e4, e27]; done) | (simp only [List.map_toArray, List.map_cons, List.map_nil, Act.eval, Array.getD_eq_getD_getElem?, Option.getD_some, e4, e27]; rfl)) ?_;refine (Tryz.Builder_WriteString_k w4.heap.size w4.heap.size _ _ _ Q_HI HLEN.out (bld_le Q_HI)).mono ?_;rintro e w99 ⟨rfl, h1, hb, ho⟩;refine ⟨_, rfl, ?_⟩;refine hK.out _ _ ⟨v382, (by rw [ha.out]; exact putSel_upk 9 hb_ rfl rfl rfl), fun h_ => absurd (show true = false from h_) (by decide), Q_HB.trans (hb.mono HGE.out), fun h_ => absurd (show true = false from h_) (by decide), fun h_ => absurd (show true = false from h_) (by decide), fun _ => ?_⟩
             rw [← bld_add]
             exact Or.inr h1
            exact steps_nil
           rintro b a w23 hall ⟨v382, ha, q_BK, Q_HB, q_HO, q_HI, q_HJ⟩;clear BK379 HB HI;have hb1_ := hall 1 (by kernel_rfl);have hb2_ := hall 2 (by kernel_rfl);have hb3_ := hall 3 (by kernel_rfl);have hb5_ := hall 5 (by kernel_rfl);have hb7_ := hall 7 (by kernel_rfl);have hb8_ := hall 8 (by kernel_rfl);have hb9_ := hall 9 (by kernel_rfl);have hb10_ := hall 10 (by kernel_rfl);have hb11_ := hall 11 (by kernel_rfl);have hb12_ := hall 12 (by kernel_rfl);subst ha;simp only [putSel, hb1_, hb2_, hb3_, hb5_, hb7_, hb8_, hb9_, hb10_, hb11_, hb12_, if_true, Act.put, la_, lb_, lc_];have HB := M_ Q_HB;clear Q_HB;have HI := M_ (q_HJ hb12_);clear q_BK q_HO q_HI q_HJ;clear hall hb1_ hb2_ hb3_ hb5_ hb7_ hb8_ hb9_ hb10_ hb11_ hb12_
           try go_wp2
           go_roundg k1
           case measure => have := HK1.out; omega
           case rel => exact ⟨(x4_1 ++ (((t380 ++ (⟨#[32]⟩ : ByteArray)) ++ t384) ++ (⟨#[10]⟩ : ByteArray))), (wrap64 (x12_1 + 1)), eD_, H', ⟨by have := HK1.out; omega⟩, HI, ⟨bU_ HB⟩⟩
          ·rw [if_neg c13] at H
           exact absurd H (by simp)
         ·rw [if_neg c12] at H
          exact absurd H (by simp)
        ·rw [if_neg c11] at H
         exact absurd H (by simp)
       ·rw [if_neg c9] at H
        exact absurd H (by simp)
      ·rw [if_neg c7] at H
       exact absurd H (by simp)
     ·rw [if_neg c6] at H
      exact absurd H (by simp)
    ·rw [if_neg c5] at H
     have c5b0 : decide (x12_1 < (l0.length : Int)) = false := decide_eq_false c5
     clear c5;simp only [Option.some.injEq, Prod.mk.injEq] at H;obtain ⟨rfl, rfl⟩ := H
     go_wp2_with (first | ((with_reducible refine gc_ 72 ?_); refine goesL_ (some 30) rfl rfl Tryz.func72 (by kernel_rfl) rfl #[.pointer (some ⟨w4.heap.size, 0, none⟩)] rfl (by (try simp only [List.map_toArray, List.map_cons, List.map_nil]); first | done | rfl) ?_; (refine (Tryz.Builder_String_any_k w4.heap.size w4.heap.size x4_1.data.toList _ HI.out (bld_le HI.out)).mono ?_); rintro e w98 ⟨rfl, hI1, hb1, ho1⟩; refine ⟨_, rfl, ?_⟩; replace HB := M_ (HB.out.trans (hb1.mono HGE.out))))
     go_ret2
     exact ⟨eR_, bU_ HB⟩
 ·go_ret2
  exact ⟨eR_, bU_ HB⟩
def spec_ntNames.f  : Option (List ByteArray) := some (([(⟨#[99]⟩ : ByteArray), (⟨#[99, 35]⟩ : ByteArray), (⟨#[100]⟩ : ByteArray), (⟨#[100, 35]⟩ : ByteArray), (⟨#[101]⟩ : ByteArray), (⟨#[102]⟩ : ByteArray), (⟨#[102, 35]⟩ : ByteArray), (⟨#[103]⟩ : ByteArray), (⟨#[103, 35]⟩ : ByteArray), (⟨#[97]⟩ : ByteArray), (⟨#[97, 35]⟩ : ByteArray), (⟨#[98]⟩ : ByteArray)] : List ByteArray))
set_option maxHeartbeats 8000000 in
set_option maxRecDepth 100000 in
theorem spec_ntNames.calls  (r : List ByteArray) (w : World) (h : spec_ntNames.f  = some r) :
  Calls Tryz.prog 85 #[] w fun e w' => ∃ v0_ : Value, e = .returned (v0_) ∧ Kd.R Kd.string 9 w' w.heap.size (fun _ => True) v0_ r ∧ Below w.heap.size w w' := by
 have HB := M_ (Below.refl w.heap.size w)
 have H : (some (([(⟨#[99]⟩ : ByteArray), (⟨#[99, 35]⟩ : ByteArray), (⟨#[100]⟩ : ByteArray), (⟨#[100, 35]⟩ : ByteArray), (⟨#[101]⟩ : ByteArray), (⟨#[102]⟩ : ByteArray), (⟨#[102, 35]⟩ : ByteArray), (⟨#[103]⟩ : ByteArray), (⟨#[103, 35]⟩ : ByteArray), (⟨#[97]⟩ : ByteArray), (⟨#[97, 35]⟩ : ByteArray), (⟨#[98]⟩ : ByteArray)] : List ByteArray))) = some r := h
 clear h;obtain ⟨y385, hy385⟩ : ∃ y_ : List ByteArray, y_ = (([(⟨#[99]⟩ : ByteArray), (⟨#[99, 35]⟩ : ByteArray), (⟨#[100]⟩ : ByteArray), (⟨#[100, 35]⟩ : ByteArray), (⟨#[101]⟩ : ByteArray), (⟨#[102]⟩ : ByteArray), (⟨#[102, 35]⟩ : ByteArray), (⟨#[103]⟩ : ByteArray), (⟨#[103, 35]⟩ : ByteArray), (⟨#[97]⟩ : ByteArray), (⟨#[97, 35]⟩ : ByteArray), (⟨#[98]⟩ : ByteArray)] : List ByteArray)) := ⟨_, rfl⟩
 replace H : (some y385) = some r := by first | (rw [hy385]; with_reducible exact H) | (have H2_ := (Option.bind_some _ _).symm.trans H; rw [hy385]; with_reducible exact H2_) | (have H2_ := (Option.bind_some _ _).symm.trans H; with_reducible exact H2_) | with_reducible exact H | (rw [hy385]; exact H) | exact H
 have Ny385 := M_ hy385;clear hy385;obtain rfl := Option.some.inj H
 go_enter Tryz.func85, Tryz.ntmps85
 go_wp2_with (first | ((with_reducible refine gate_dst (N := 1) rfl ?_); refine Kd.R_lit Kd.string _ 9 ?hg (N := 1) ?hd (xs := ([(⟨#[99]⟩ : ByteArray), (⟨#[99, 35]⟩ : ByteArray), (⟨#[100]⟩ : ByteArray), (⟨#[100, 35]⟩ : ByteArray), (⟨#[101]⟩ : ByteArray), (⟨#[102]⟩ : ByteArray), (⟨#[102, 35]⟩ : ByteArray), (⟨#[103]⟩ : ByteArray), (⟨#[103, 35]⟩ : ByteArray), (⟨#[97]⟩ : ByteArray), (⟨#[97, 35]⟩ : ByteArray), (⟨#[98]⟩ : ByteArray)] : List ByteArray)) (inner := [.string (⟨#[99]⟩ : ByteArray), .string (⟨#[99, 35]⟩ : ByteArray), .string (⟨#[100]⟩ : ByteArray), .string (⟨#[100, 35]⟩ : ByteArray), .string (⟨#[101]⟩ : ByteArray), .string (⟨#[102]⟩ : ByteArray), .string (⟨#[102, 35]⟩ : ByteArray), .string (⟨#[103]⟩ : ByteArray), .string (⟨#[103, 35]⟩ : ByteArray), .string (⟨#[97]⟩ : ByteArray), .string (⟨#[97, 35]⟩ : ByteArray), .string (⟨#[98]⟩ : ByteArray)]) (ok := fun _ => True) (okp := fun _ => True) ?hr ?hp (fun _ hk => hk) trivial (Below.refl _ _) (Nat.le_refl _) (by simp) ?_; (case hd => rfl); (case hg => rfl); (case hr => first | (go_simp; done) | (go_simp; rfl)); (case hp => exact (Reps.one (show Kd.M Kd.string _ _ _ (⟨#[99]⟩ : ByteArray) [.string (⟨#[99]⟩ : ByteArray)] from rfl) (Reps.one (show Kd.M Kd.string _ _ _ (⟨#[99, 35]⟩ : ByteArray) [.string (⟨#[99, 35]⟩ : ByteArray)] from rfl) (Reps.one (show Kd.M Kd.string _ _ _ (⟨#[100]⟩ : ByteArray) [.string (⟨#[100]⟩ : ByteArray)] from rfl) (Reps.one (show Kd.M Kd.string _ _ _ (⟨#[100, 35]⟩ : ByteArray) [.string (⟨#[100, 35]⟩ : ByteArray)] from rfl) (Reps.one (show Kd.M Kd.string _ _ _ (⟨#[101]⟩ : ByteArray) [.string (⟨#[101]⟩ : ByteArray)] from rfl) (Reps.one (show Kd.M Kd.string _ _ _ (⟨#[102]⟩ : ByteArray) [.string (⟨#[102]⟩ : ByteArray)] from rfl) (Reps.one (show Kd.M Kd.string _ _ _ (⟨#[102, 35]⟩ : ByteArray) [.string (⟨#[102, 35]⟩ : ByteArray)] from rfl) (Reps.one (show Kd.M Kd.string _ _ _ (⟨#[103]⟩ : ByteArray) [.string (⟨#[103]⟩ : ByteArray)] from rfl) (Reps.one (show Kd.M Kd.string _ _ _ (⟨#[103, 35]⟩ : ByteArray) [.string (⟨#[103, 35]⟩ : ByteArray)] from rfl) (Reps.one (show Kd.M Kd.string _ _ _ (⟨#[97]⟩ : ByteArray) [.string (⟨#[97]⟩ : ByteArray)] from rfl) (Reps.one (show Kd.M Kd.string _ _ _ (⟨#[97, 35]⟩ : ByteArray) [.string (⟨#[97, 35]⟩ : ByteArray)] from rfl) (Reps.one (show Kd.M Kd.string _ _ _ (⟨#[98]⟩ : ByteArray) [.string (⟨#[98]⟩ : ByteArray)] from rfl) (Reps.none _ _)))))))))))))); intro v386 w1 ho2 hb hg_ hnew_; clear hg_ hnew_; (first | rw [← Ny385.out] at ho2 | (simp only [Int.reduceToNat] at ho2; rw [← Ny385.out] at ho2)); have HO387 := M_ (Kd.R_lower ho2 (bZ_ HB)); replace HB := M_ (bS_ HB hb); clear hb ho2))
 go_ret
 exact ⟨_, eR_, rU_ HO387.out, bU_ HB⟩
def spec_l1Num.f : Nat → Int → Option (ByteArray)
 | 0, _ => none
 | k + 1, a0 => if a0 < 10 then (some (strOfNums (([(wrap64 (48 + a0)) % 256] : List Int)))) else ((spec_l1Num.f k (wrap64 (Int.tdiv a0 10))).bind fun t391 => ((some (([(wrap64 (48 + (Int.tmod a0 10))) % 256] : List Int) : List Int)).bind fun y392 => (if t391.size + (strOfNums y392).size ≤ 9223372036854775807 then (some (t391 ++ (strOfNums y392))) else (none))))
theorem spec_l1Num.mono_l : ∀ k, (∀ y0, LeO (spec_l1Num.f k y0) (spec_l1Num.f (k + 1) y0))
 | 0 => fun _ r h => by simp [spec_l1Num.f] at h
 | k + 1 => by
  have ih0 := spec_l1Num.mono_l k
  ·intro y0
   unfold spec_l1Num.f
   exact mo_
theorem spec_l1Num.mono : ∀ a0 k, LeO (spec_l1Num.f k a0) (spec_l1Num.f (k + 1) a0) := by
 intro a0 k;have ih0 := spec_l1Num.mono_l k;exact ih0 a0
def spec_l1Num.T3 : Bool × List (List Nat × List Nat) := (true, [([], []), ([0], [0]), ([1], [1]), ([], []), ([3], [3]), ([4], [4]), ([5], [5]), ([6], [6]), ([7], [7]), ([2, 8], [2, 8]), ([9, 2, 0, 1, 2, 3, 4, 5, 6, 7, 8, 9], [9])])
def spec_l1Num.B3 : List Nat := [0, 1, 3, 0, 8, 24, 56, 120, 248, 511, 1023]
theorem spec_l1Num.tab3 : rtab .any (opsOf Tryz.f86 3) = spec_l1Num.T3 := by kernel_rfl
theorem spec_l1Num.bits3 : waitsOk spec_l1Num.T3.2 spec_l1Num.B3 = true := by kernel_rfl
set_option maxHeartbeats 8000000 in
set_option maxRecDepth 100000 in
theorem spec_l1Num.calls (k : Nat) : ∀ (a0 : Int) (r : ByteArray) (w : World) (h : spec_l1Num.f k a0 = some r),
  Calls Tryz.prog 86 #[.int .i64 a0] w fun e w' => e = .returned (.string r) ∧ Below w.heap.size w w' := by
 induction k using Nat.strongRecOn with
 | _ k ih =>
 intro a0 r w h
 cases k with
 | zero => exact absurd h (by simp [spec_l1Num.f])
 | succ k =>
 simp only [spec_l1Num.f] at h;have HB := M_ (Below.refl w.heap.size w)
 have H : (if a0 < 10 then (some (strOfNums (([(wrap64 (48 + a0)) % 256] : List Int)))) else ((spec_l1Num.f k (wrap64 (Int.tdiv a0 10))).bind fun t391 => ((some (([(wrap64 (48 + (Int.tmod a0 10))) % 256] : List Int) : List Int)).bind fun y392 => (if t391.size + (strOfNums y392).size ≤ 9223372036854775807 then (some (t391 ++ (strOfNums y392))) else (none))))) = some r := h
 clear h
 by_cases c2 : a0 < 10
 ·rw [if_pos c2] at H
  have c2b0 : decide (a0 < 10) = true := decide_eq_true c2
  clear c2;obtain ⟨y388, hy388⟩ : ∃ y_ : List Int, y_ = (([(wrap64 (48 + a0)) % 256] : List Int)) := ⟨_, rfl⟩
  replace H : (some (strOfNums y388)) = some r := by first | (rw [hy388]; with_reducible exact H) | (have H2_ := (Option.bind_some _ _).symm.trans H; rw [hy388]; with_reducible exact H2_) | (have H2_ := (Option.bind_some _ _).symm.trans H; with_reducible exact H2_) | with_reducible exact H | (rw [hy388]; exact H) | exact H
  have Ny388 := M_ hy388;clear hy388;obtain rfl := Option.some.inj H
  go_enter Tryz.func86, Tryz.ntmps86
  go_wp2_with (first | ((with_reducible refine gate_dst (N := 8) rfl ?_); refine lt_ (Kd.int .u8) 5 (N := 8) (([(wrap64 (48 + a0)) % 256] : List Int)) [.int .u8 ((wrap64 (48 + a0)) % 256)] ri_ ?_; intro v389 w3 ho4 hb hg_ hnew_; clear hg_ hnew_; replace ho4 := rN_ Ny388 ho4; have HO390 := M_ (Kd.R_lower ho4 (bZ_ HB)); replace HB := M_ (bS_ HB hb); clear hb ho4; have hcv5 := own_string (P := Tryz.prog) Tryz.underlying22 Tryz.underlying5 Tryz.underlying9 (Kd.own_of_R HO390.out)))
  go_ret
  exact ⟨eR_, bU_ HB⟩
 ·rw [if_neg c2] at H
  have c2b0 : decide (a0 < 10) = false := decide_eq_false c2
  clear c2;replace H := Option.bind_eq_some_iff.mp H;obtain ⟨t391, A60, H⟩ := H;(try dsimp only at H);have A6 := M_ A60;clear A60;obtain ⟨y392, hy392, H⟩ := ob_ H;(try dsimp only at H);have Ny392 := M_ hy392;clear hy392
  by_cases c7 : t391.size + (strOfNums y392).size ≤ 9223372036854775807
  ·rw [if_pos c7] at H
   have c7b0 := eq_true c7
   have c7b1 : decide (t391.size + (strOfNums y392).size ≤ 9223372036854775807) = true := decide_eq_true c7
   try have c7b2 : (9223372036854775807 < t391.size + (strOfNums y392).size) = False := eq_false (Nat.not_lt.2 c7)
   obtain rfl := Option.some.inj H
   go_enter Tryz.func86, Tryz.ntmps86
   try go_wp2
   replace HB := M_ (b1_ HB.out);refine start_ (n := 11) (S := fun w' => True) (ds := []) #[F,F,F,F,F,F,F,F,F,F,F] (by kernel_rfl) rfl rfl trivial (fun hHeld => ?_); refine with_tabW spec_l1Num.tab3 spec_l1Num.bits3 (fun HT_ HW_ => ?_);generalize w.drew = w8 at HB hHeld ⊢;refine pR_ (i := 0) (N := some 10) #[T,F,F,F,F,F,F,F,F,F,F] ?_;refine pR_ (i := 1) (N := some 11) #[T,T,F,F,F,F,F,F,F,F,F] ?_;refine pR_ (i := 3) (N := some 13) #[T,T,F,T,F,F,F,F,F,F,F] ?_;refine pR_ (i := 4) (N := some 14) #[T,T,F,T,T,F,F,F,F,F,F] ?_;refine pR_ (i := 5) (N := some 15) #[T,T,F,T,T,T,F,F,F,F,F] ?_;refine pR_ (i := 6) (N := some 16) #[T,T,F,T,T,T,T,F,F,F,F] ?_;refine join_ (σ := Value) 2 #[T,T,T,T,T,T,T,T,T,F,F] (fun s_ => [(12, .string t391), (17, s_), (18, .string (strOfNums y392))]) (fun s_ w' => (Kd.R (Kd.int .u8) 5 w' w.heap.size (fun _ => True) s_ y392) ∧ (Below w.heap.size w w')) ?_ ?_;rotate_left
   ·intro hCont
    refine two_ (i := 2) (j := 7) (Ni := some 12) (Nj := some 17) #[T,T,T,T,T,T,T,F,F,F,F] #[T,T,F,T,T,T,T,T,F,F,F] rfl rfl rfl rfl (two_of HT_.out (by kernel_rfl)) (by decide) (by decide) (fun K hK => ?_) (fun K hK => ?_)
    ·skip
     refine gS_ Tryz.func86 #[.int .i64 (wrap64 (Int.tdiv a0 10))] ?_
     with_reducible refine (ih k (by omega) (wrap64 (Int.tdiv a0 10)) t391 _ A6.out).mono ?_
     rintro e w9 ⟨rfl, hb⟩;refine ⟨_, rfl, ?_⟩;replace HB := M_ (bS_ HB hb);clear hb;refine hK.out _ _ trivial (fun hHeld => ?_);clear hK K;refine nM_ (some 12) ?_;refine one_ (i := 7) (N := some 17) #[T,T,T,T,T,T,T,T,F,F,F] rfl rfl (one_of HT_.out (by kernel_rfl)) (by decide) (fun K hK => ?_);refine ls_ (Kd.int .u8) 5 (N := 17) (([(wrap64 (48 + (Int.tmod a0 10))) % 256] : List Int)) [.int .u8 ((wrap64 (48 + (Int.tmod a0 10))) % 256)] ri_ ?_;intro v393 w10 ho11 hb hg_ hnew_;clear hg_ hnew_;replace ho11 := rN_ Ny392 ho11;have HO394 := M_ (Kd.R_lower ho11 (bZ_ HB)); replace HB := M_ (bS_ HB hb);clear hb ho11;refine hK.out _ _ trivial (fun hHeld => ?_);clear hK K;refine nM_ (some 17) ?_;refine one_ (i := 8) (N := some 18) #[T,T,T,T,T,T,T,T,T,F,F] rfl rfl (one_of HT_.out (by kernel_rfl)) (by decide) (fun K hK => ?_);have hcv12 := own_string (P := Tryz.prog) Tryz.underlying22 Tryz.underlying5 Tryz.underlying9 (Kd.own_of_R HO394.out);refine value_ (w1 := ?_) (v := ?_) (by rfl) rfl ?_ ?_
     rotate_left 2
     ·go_simp
      constructor
      ·rfl
      ·rfl
     clear hcv12;refine hK.out _ _ trivial (fun hHeld => ?_);clear hK K;refine nM_ (some 18) ?_;exact norm_ (by simp only [putAll, Act.put, la_, lb_, lc_]) (hCont (v393) _ ⟨(rU_ HO394.out), (bU_ HB)⟩)
    ·skip
     refine ls_ (Kd.int .u8) 5 (N := 17) (([(wrap64 (48 + (Int.tmod a0 10))) % 256] : List Int)) [.int .u8 ((wrap64 (48 + (Int.tmod a0 10))) % 256)] ri_ ?_;intro v393 w9 ho10 hb hg_ hnew_;clear hg_ hnew_;replace ho10 := rN_ Ny392 ho10;have HO394 := M_ (Kd.R_lower ho10 (bZ_ HB)); replace HB := M_ (bS_ HB hb);clear hb ho10;refine hK.out _ _ trivial (fun hHeld => ?_);clear hK K;refine nM_ (some 17) ?_;refine two_ (i := 2) (j := 8) (Ni := some 12) (Nj := some 18) #[T,T,T,T,T,T,T,T,F,F,F] #[T,T,F,T,T,T,T,T,T,F,F] rfl rfl rfl rfl (two_of HT_.out (by kernel_rfl)) (by decide) (by decide) (fun K hK => ?_) (fun K hK => ?_)
     ·skip
      refine gS_ Tryz.func86 #[.int .i64 (wrap64 (Int.tdiv a0 10))] ?_
      with_reducible refine (ih k (by omega) (wrap64 (Int.tdiv a0 10)) t391 _ A6.out).mono ?_
      rintro e w11 ⟨rfl, hb⟩;refine ⟨_, rfl, ?_⟩;replace HO394 := M_ (rB_ HO394 hb); replace HB := M_ (bS_ HB hb);clear hb;refine hK.out _ _ trivial (fun hHeld => ?_);clear hK K;refine nM_ (some 12) ?_;refine one_ (i := 8) (N := some 18) #[T,T,T,T,T,T,T,T,T,F,F] rfl rfl (one_of HT_.out (by kernel_rfl)) (by decide) (fun K hK => ?_);have hcv12 := own_string (P := Tryz.prog) Tryz.underlying22 Tryz.underlying5 Tryz.underlying9 (Kd.own_of_R HO394.out);refine value_ (w1 := ?_) (v := ?_) (by rfl) rfl ?_ ?_
      rotate_left 2
      ·go_simp
       constructor
       ·rfl
       ·rfl
      clear hcv12;refine hK.out _ _ trivial (fun hHeld => ?_);clear hK K;refine nM_ (some 18) ?_;exact norm_ (by simp only [putAll, Act.put, la_, lb_, lc_]) (hCont (v393) _ ⟨(rU_ HO394.out), (bU_ HB)⟩)
     ·skip
      have hcv11 := own_string (P := Tryz.prog) Tryz.underlying22 Tryz.underlying5 Tryz.underlying9 (Kd.own_of_R HO394.out);refine value_ (w1 := ?_) (v := ?_) (by rfl) rfl ?_ ?_
      rotate_left 2
      ·go_simp
       constructor
       ·rfl
       ·rfl
      clear hcv11;refine hK.out _ _ trivial (fun hHeld => ?_);clear hK K;refine nM_ (some 18) ?_;refine one_ (i := 2) (N := some 12) #[T,T,T,T,T,T,T,T,T,F,F] rfl rfl (one_of HT_.out (by kernel_rfl)) (by decide) (fun K hK => ?_);refine gS_ Tryz.func86 #[.int .i64 (wrap64 (Int.tdiv a0 10))] ?_
      with_reducible refine (ih k (by omega) (wrap64 (Int.tdiv a0 10)) t391 _ A6.out).mono ?_
      rintro e w12 ⟨rfl, hb⟩;refine ⟨_, rfl, ?_⟩;replace HO394 := M_ (rB_ HO394 hb); replace HB := M_ (bS_ HB hb);clear hb;refine hK.out _ _ trivial (fun hHeld => ?_);clear hK K;refine nM_ (some 12) ?_;exact norm_ (by simp only [putAll, Act.put, la_, lb_, lc_]) (hCont (v393) _ ⟨(rU_ HO394.out), (bU_ HB)⟩)
   rintro v393 w13 ⟨h0_, h1_⟩
   have n0_ : Aside0 (Kd.R (Kd.int .u8) 5 w13 w.heap.size (fun _ => True) v393 y392) := ⟨h0_⟩
   have n1_ : Aside0 (Below w.heap.size w w13) := ⟨h1_⟩
   clear HB;clear h0_ h1_;have HO394 := n0_;have HB := n1_;clear n0_ n1_;have hHeld := trivial;refine norm_ (a' := ?_) ?_ ?_;rotate_left
   ·simp only [putAll, Act.put, la_, lb_, lc_]
    rfl
   refine pR_ (i := 9) (N := some 19) #[T,T,T,T,T,T,T,T,T,T,F] ?_;refine pR_ (i := 10) (N := some 2) #[T,T,T,T,T,T,T,T,T,T,T] ?_;refine done_ (done_of HT_.out (by kernel_rfl)) ?_
   try go_wp2
   go_ret
   exact ⟨eR_, bU_ HB⟩
  ·rw [if_neg c7] at H
   exact absurd H (by simp)
end Go.Proofs.YtfpfjnmjekjnhaaGreatDoor.PFnScores
