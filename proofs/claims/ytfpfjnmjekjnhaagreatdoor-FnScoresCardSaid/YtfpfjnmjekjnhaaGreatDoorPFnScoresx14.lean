-- by wip/xprint.py, over the kit's printer
import Derived.Test.YtfpfjnmjekjnhaaGreatDoorPFnScoresx0
import Derived.Test.YtfpfjnmjekjnhaaGreatDoorPFnScoresx2
import Derived.Test.YtfpfjnmjekjnhaaGreatDoorPFnScoresx3
import Derived.Test.YtfpfjnmjekjnhaaGreatDoorPFnScoresx8
import Derived.Test.YtfpfjnmjekjnhaaGreatDoorPFnScoresx13
namespace Go.Proofs.YtfpfjnmjekjnhaaGreatDoor.PFnScores
open Go.RowKit Go.Proofs.YtfpfjnmjekjnhaaGreatDoorW.PrintWords Go.Proofs.YtfpfjnmjekjnhaaGreatDoorW.PrintLast Go.Proofs.YtfpfjnmjekjnhaaGreatDoorW.PrintMore
attribute [local go_sem] max2_int min2_int max_two min_two max_three min_three max_four min_four   -- for this text's walks alone
set_option linter.unusedVariables false
set_option linter.unusedSimpArgs false

theorem wpAnyLast_weak {P : Program} {ops : Array Oper} {Q : Exit → Act → World → Prop} {md : Region.Mode} {S' : World → Prop} {ds : List Nat} : ∀ (fuel : Nat) (listed : Array Bool) (a : Act) (w : World), wpAnyLast P md ops Q S' ds fuel listed a w → wpAnyLast P md ops Q (fun _ => True) ds fuel listed a w
 | 0, _, _, _, h => h
 | fuel + 1, _, _, _, h => ⟨h.1, fun i hi => wpOp_mono (fun a' w' h' => ⟨fun _ _ => trivial, wpAnyLast_weak fuel _ a' w' h'.2⟩) (h.2 i hi)⟩
def spec_ntName.f (k : Nat) (a0 : Int) : Option (ByteArray) := (spec_ntNames.f).bind fun t395 => (if 0 ≤ (Int.tmod a0 12) then (if (Int.tmod a0 12) < (t395.length : Int) then ((spec_l1Num.f k (wrap64 (Int.tdiv a0 12))).bind fun t399 => (if (rdOf ByteArray.empty t395 (Int.tmod a0 12)).size + t399.size ≤ 9223372036854775807 then (some ((rdOf ByteArray.empty t395 (Int.tmod a0 12)) ++ t399)) else (none))) else (none)) else (none))
theorem spec_ntName.mono : ∀ a0 k, LeO (spec_ntName.f k a0) (spec_ntName.f (k + 1) a0) := by
 intro a0 k
 unfold spec_ntName.f
 have m0_ := @spec_l1Num.mono;exact mo_
def spec_ntName.T1 : Bool × List (List Nat × List Nat) := (true, [([], []), ([], []), ([1], [1]), ([0, 2], [0, 2]), ([3], [3]), ([], []), ([5], [5]), ([6, 0], [6]), ([4, 7], [4, 7]), ([8, 7, 0, 1, 2, 3, 4, 5, 6, 7, 8], [8])])
def spec_ntName.B1 : List Nat := [0, 0, 2, 7, 15, 0, 32, 97, 255, 511]
theorem spec_ntName.tab1 : rtab .any (opsOf Tryz.f57 1) = spec_ntName.T1 := by kernel_rfl
theorem spec_ntName.bits1 : waitsOk spec_ntName.T1.2 spec_ntName.B1 = true := by kernel_rfl
set_option maxHeartbeats 8000000 in
set_option maxRecDepth 100000 in
theorem spec_ntName.calls (k : Nat) (a0 : Int) (r : ByteArray) (w : World) (h : spec_ntName.f k a0 = some r) :
  Calls Tryz.prog 57 #[.int .i64 a0] w fun e w' => e = .returned (.string r) ∧ Below w.heap.size w w' := by
 have HB := M_ (Below.refl w.heap.size w)
 have H : ((spec_ntNames.f).bind fun t395 => (if 0 ≤ (Int.tmod a0 12) then (if (Int.tmod a0 12) < (t395.length : Int) then ((spec_l1Num.f k (wrap64 (Int.tdiv a0 12))).bind fun t399 => (if (rdOf ByteArray.empty t395 (Int.tmod a0 12)).size + t399.size ≤ 9223372036854775807 then (some ((rdOf ByteArray.empty t395 (Int.tmod a0 12)) ++ t399)) else (none))) else (none)) else (none))) = some r := h
 clear h;replace H := Option.bind_eq_some_iff.mp H;obtain ⟨t395, A20, H⟩ := H;(try dsimp only at H);have A2 := M_ A20;clear A20;obtain ⟨ji3, hji3⟩ : ∃ j_ : Int, (Int.tmod a0 12) = j_ := ⟨_, rfl⟩
 replace H : (if 0 ≤ (ji3) then (if (ji3) < (t395.length : Int) then ((spec_l1Num.f k (wrap64 (Int.tdiv a0 12))).bind fun t399 => (if (rdOf ByteArray.empty t395 (ji3)).size + t399.size ≤ 9223372036854775807 then (some ((rdOf ByteArray.empty t395 (ji3)) ++ t399)) else (none))) else (none)) else (none)) = some r := by first | (rw [hji3] at H; exact H) | (simp only [hji3] at H ⊢; exact H)
 (try rw [hji3] at A2)
 by_cases c4 : 0 ≤ (ji3)
 ·rw [if_pos c4] at H
  have c4b0 : decide (0 ≤ (ji3)) = true := decide_eq_true c4
  clear c4
  by_cases c5 : (ji3) < (t395.length : Int)
  ·rw [if_pos c5] at H
   have c5b0 : decide ((ji3) < (t395.length : Int)) = true := decide_eq_true c5
   clear c5;replace H := Option.bind_eq_some_iff.mp H;obtain ⟨t399, A60, H⟩ := H;(try dsimp only at H);have A6 := M_ A60;clear A60
   by_cases c7 : (rdOf ByteArray.empty t395 (ji3)).size + t399.size ≤ 9223372036854775807
   ·rw [if_pos c7] at H
    have c7b0 := eq_true c7
    have c7b1 : decide ((rdOf ByteArray.empty t395 (ji3)).size + t399.size ≤ 9223372036854775807) = true := decide_eq_true c7
    try have c7b2 : (9223372036854775807 < (rdOf ByteArray.empty t395 (ji3)).size + t399.size) = False := eq_false (Nat.not_lt.2 c7)
    obtain rfl := Option.some.inj H
    go_enter Tryz.func57, Tryz.ntmps57
    try go_wp2
    replace HB := M_ (b1_ HB.out);refine start_ (n := 10) (S := fun _ => True) (ds := []) #[F,F,F,F,F,F,F,F,F,F] (by kernel_rfl) rfl rfl trivial (fun hHeld => ?_); refine with_tabW spec_ntName.tab1 spec_ntName.bits1 (fun HT_ HW_ => ?_);generalize w.drew = w8 at HB hHeld ⊢;refine pR_ (i := 1) (N := some 4) #[F,T,F,F,F,F,F,F,F,F] ?_;refine pR_ (i := 2) (N := some 5) #[F,T,T,F,F,F,F,F,F,F] ?_;refine pR_ (i := 5) (N := some 8) #[F,T,T,F,F,T,F,F,F,F] ?_;refine pR_ (i := 6) (N := some 9) #[F,T,T,F,F,T,T,F,F,F] ?_;refine one_ (i := 0) (N := some 3) #[T,T,T,F,F,T,T,F,F,F] rfl rfl (one_of HT_.out (by kernel_rfl)) (by decide) (fun K hK => ?_);refine gS_ Tryz.func85 #[] ?_
    with_reducible refine (spec_ntNames.calls  t395 _ A2.out).mono ?_
    rintro e w9 ⟨v396, rfl, ho0, hb⟩;have HS0_ := trivial;refine ⟨_, rfl, ?_⟩;have HO397 := M_ (Kd.R_lower ho0 (bZ_ HB)); replace HB := M_ (bS_ HB hb);clear hb ho0;obtain ⟨Ao10, co10, eo10⟩ := Kd.R_slice HO397.out
    (first | subst eo10 | (injection eo10 with f1_ f2_ f3_; have f4_ := f1_.symm; have f5_ := f3_.symm; clear f1_ f2_ f3_; subst f4_; subst f5_))
    have p398 : 0 ≤ ((ji3) : Int) := dT_
    have q398 : (ji3) < (t395.length : Int) := dT_
    obtain ⟨ad398, e398, hx398_0⟩ := Kd.at_string (Kd.R_reads' HO397.out).2.2 (ji3) p398 q398;cases e398;replace p398 := eq_true p398;replace q398 := eq_true q398;refine hK.out _ _ (HS0_) (fun hHeld => ?_);clear hK K;refine wpAnyLast_weak (S' := fun w' => w'.cell? (ad398.add ((ji3)).toNat) = some (.string (rdOf ByteArray.empty t395 (ji3)))) _ _ _ _ ?_;replace hHeld := hx398_0;refine nM_ (some 3) ?_;refine pR_ (i := 3) (N := some 6) #[T,T,T,T,F,T,T,F,F,F] ?_;refine take_ (i := 4) (N := some 7) (v := ?_) (a' := ?_) #[T,T,T,T,T,T,T,F,F,F] rfl rfl (take_ofW HT_.out HW_.out (by kernel_rfl)) (fun _ _ _ h => h) (Or.inl ⟨by rfl, ?_⟩) hHeld ?_ ?_;rotate_left
    ·intro w' s0
     go_simp;with_reducible rfl
    rotate_left
    ·simp only [Act.put, la_, lb_, lc_, i64_w, i32_w]
     rfl
    refine one_ (i := 7) (N := some 10) #[T,T,T,T,T,T,T,T,F,F] rfl rfl (one_of HT_.out (by kernel_rfl)) (by decide) (fun K hK => ?_);refine gS_ Tryz.func86 #[.int .i64 (wrap64 (Int.tdiv a0 12))] ?_
    with_reducible refine (spec_l1Num.calls k (wrap64 (Int.tdiv a0 12)) t399 _ A6.out).mono ?_
    rintro e w11 ⟨rfl, hb⟩;have HS0_ := (hb.cell (World.block_lt_of_cell? _ _ (hHeld))).trans (hHeld);refine ⟨_, rfl, ?_⟩;replace HO397 := M_ (rB_ HO397 hb); replace HB := M_ (bS_ HB hb);clear hb;refine hK.out _ _ (HS0_) (fun hHeld => ?_);clear hK K;refine nM_ (some 10) ?_;refine pR_ (i := 8) (N := some 11) #[T,T,T,T,T,T,T,T,T,F] ?_;refine pR_ (i := 9) (N := some 2) #[T,T,T,T,T,T,T,T,T,T] ?_;refine done_ (done_of HT_.out (by kernel_rfl)) ?_
    try go_wp2
    go_ret
    exact ⟨by first | rfl | (simp [errW_none, errW_some] <;> rfl) | (simp only [← hji3]; first | rfl | (simp [errW_none, errW_some] <;> rfl)) | (simp [*, errW_none, errW_some] <;> rfl), bU_ HB⟩
   ·rw [if_neg c7] at H
    exact absurd H (by simp)
  ·rw [if_neg c5] at H
   exact absurd H (by simp)
 ·rw [if_neg c4] at H
  exact absurd H (by simp)
def spec_ntText.l0 : Nat → ByteArray → List (S31) → Int → Int → Option (ByteArray)
 | 0, _, _, _, _ => none
 | k + 1, x3, x6, x7, x8 => if x8 < x7 then (if 0 ≤ x8 then (if x8 < (x6.length : Int) then ((spec_ntName.f k ((rd_T31 x6 x8).f0)).bind fun t402 => (if t402.size + 1 ≤ 9223372036854775807 then ((spec_l1Num.f k ((rd_T31 x6 x8).f1)).bind fun t403 => (if (t402 ++ (⟨#[32]⟩ : ByteArray)).size + t403.size ≤ 9223372036854775807 then (if ((t402 ++ (⟨#[32]⟩ : ByteArray)) ++ t403).size + 1 ≤ 9223372036854775807 then ((spec_l1Num.f k ((rd_T31 x6 x8).f2)).bind fun t404 => (if (((t402 ++ (⟨#[32]⟩ : ByteArray)) ++ t403) ++ (⟨#[32]⟩ : ByteArray)).size + t404.size ≤ 9223372036854775807 then (if ((((t402 ++ (⟨#[32]⟩ : ByteArray)) ++ t403) ++ (⟨#[32]⟩ : ByteArray)) ++ t404).size + 1 ≤ 9223372036854775807 then (if x3.size + (((((t402 ++ (⟨#[32]⟩ : ByteArray)) ++ t403) ++ (⟨#[32]⟩ : ByteArray)) ++ t404) ++ (⟨#[10]⟩ : ByteArray)).size ≤ 9223372036854775807 then (spec_ntText.l0 k (x3 ++ (((((t402 ++ (⟨#[32]⟩ : ByteArray)) ++ t403) ++ (⟨#[32]⟩ : ByteArray)) ++ t404) ++ (⟨#[10]⟩ : ByteArray))) x6 x7 (wrap64 (x8 + 1))) else (none)) else (none)) else (none))) else (none)) else (none))) else (none))) else (none)) else (none)) else (some x3)
def spec_ntText.f (k : Nat) (l0 : List (S31)) : Option (ByteArray) := spec_ntText.l0 k (⟨#[]⟩ : ByteArray) l0 (l0.length : Int) 0
theorem spec_ntText.mono_l : ∀ k, (∀ y0 y1 y2 y3, LeO (spec_ntText.l0 k y0 y1 y2 y3) (spec_ntText.l0 (k + 1) y0 y1 y2 y3))
 | 0 => fun _ _ _ _ r h => by simp [spec_ntText.l0] at h
 | k + 1 => by
  have ih0 := spec_ntText.mono_l k
  ·intro y0 y1 y2 y3
   unfold spec_ntText.l0
   have m0_ := @spec_l1Num.mono;have m1_ := @spec_ntName.mono;exact mo_
theorem spec_ntText.mono : ∀ a0 k, LeO (spec_ntText.f k a0) (spec_ntText.f (k + 1) a0) := by
 intro a0 k;have ih0 := spec_ntText.mono_l k
 unfold spec_ntText.f
 have m0_ := @spec_l1Num.mono;have m1_ := @spec_ntName.mono;exact mo_
def spec_ntText.T5 : Bool × List (List Nat × List Nat) := (true, [([], []), ([], []), ([1], [1]), ([2], [2]), ([3], [3]), ([], []), ([5], [5]), ([6, 3], [6]), ([4, 7], [4, 7]), ([8], [8]), ([], []), ([10], [10]), ([11, 7], [11]), ([9, 12], [9, 12]), ([13], [13]), ([0, 14], [0, 14]), ([15, 12, 0, 1, 2, 3, 4, 5, 6, 7, 8, 9, 10, 11, 12, 13, 14, 15], [0, 15])])
def spec_ntText.B5 : List Nat := [0, 0, 2, 6, 14, 0, 32, 110, 254, 510, 0, 1024, 3310, 8190, 16382, 32767, 65535]
theorem spec_ntText.tab5 : rtab .any (opsOf Tryz.f58 5) = spec_ntText.T5 := by kernel_rfl
theorem spec_ntText.bits5 : waitsOk spec_ntText.T5.2 spec_ntText.B5 = true := by kernel_rfl
set_option maxHeartbeats 8000000 in
set_option maxRecDepth 100000 in
theorem spec_ntText.calls (k : Nat) (A0 : Option Addr) (c0 : Nat) (l0 : List (S31)) (r : ByteArray) (w : World) (hr0 : Kd.C k31 w A0 l0.length l0) (hc0 : l0.length ≤ c0) (h : spec_ntText.f k l0 = some r) :
  Calls Tryz.prog 58 #[.slice A0 l0.length c0] w fun e w' => e = .returned (.string r) ∧ Below w.heap.size w w' := by
 have hu31 := Tryz.underlying31;have HR0 := M_ hr0;have HC0 := M_ hc0;clear hr0 hc0;have HB := M_ (Below.refl w.heap.size w)
 have H : (spec_ntText.l0 k (⟨#[]⟩ : ByteArray) l0 (l0.length : Int) 0) = some r := h
 clear h
 have H' := M_ H
 clear H
 go_enter Tryz.func58, Tryz.ntmps58
 go_wp2
 go_loopg [3, 8] k (fun kq v3 v8 w' => ∃ (x3_1 : ByteArray) (x8_1 : Int), v3 = .string x3_1 ∧ v8 = .int .i64 x8_1 ∧ Aside0 (spec_ntText.l0 kq x3_1 l0 (l0.length : Int) x8_1 = some r) ∧ Aside0 (kq ≤ k) ∧ Aside0 (Below w.heap.size w w'))
 case atStart => exact ⟨((⟨#[]⟩ : ByteArray)), (0), eD_, eD_, H', ⟨Nat.le_refl _⟩, ⟨bU_ HB⟩⟩
 case round =>
  clear H';obtain ⟨x3_1, x8_1, rfl, rfl, HA, HK1, HB⟩ := hrel
  cases gk with
  | zero => exact absurd HA.out (by simp [spec_ntText.l0])
  | succ k1 =>
   have H := HA.out;clear HA;simp only [spec_ntText.l0] at H
   by_cases c2 : x8_1 < (l0.length : Int)
   ·rw [if_pos c2] at H
    have c2b0 : decide (x8_1 < (l0.length : Int)) = true := decide_eq_true c2
    clear c2
    by_cases c3 : 0 ≤ x8_1
    ·rw [if_pos c3] at H
     have c3b0 : decide (0 ≤ x8_1) = true := decide_eq_true c3
     clear c3
     by_cases c4 : x8_1 < (l0.length : Int)
     ·rw [if_pos c4] at H
      have c4b0 : decide (x8_1 < (l0.length : Int)) = true := decide_eq_true c4
      clear c4;replace H := Option.bind_eq_some_iff.mp H;obtain ⟨t402, A50, H⟩ := H;(try dsimp only at H);have A5 := M_ A50;clear A50
      by_cases c6 : t402.size + 1 ≤ 9223372036854775807
      ·rw [if_pos c6] at H
       have c6b0 := eq_true c6
       have c6b1 : decide (t402.size + 1 ≤ 9223372036854775807) = true := decide_eq_true c6
       try have c6b2 : (9223372036854775807 < t402.size + 1) = False := eq_false (Nat.not_lt.2 c6)
       replace H := Option.bind_eq_some_iff.mp H;obtain ⟨t403, A70, H⟩ := H;(try dsimp only at H);have A7 := M_ A70;clear A70
       by_cases c8 : (t402 ++ (⟨#[32]⟩ : ByteArray)).size + t403.size ≤ 9223372036854775807
       ·rw [if_pos c8] at H
        have c8b0 := eq_true c8
        have c8b1 : decide ((t402 ++ (⟨#[32]⟩ : ByteArray)).size + t403.size ≤ 9223372036854775807) = true := decide_eq_true c8
        try have c8b2 : (9223372036854775807 < (t402 ++ (⟨#[32]⟩ : ByteArray)).size + t403.size) = False := eq_false (Nat.not_lt.2 c8)
        have c8s := c8
        try simp only [ByteArray.size_append, show (⟨#[32]⟩ : ByteArray).size = 1 from rfl] at c8s
        have c8s0 := eq_true c8s;have c8s1 := decide_eq_true c8s
        try have c8s2 := eq_false (Nat.not_lt.2 c8s)
        by_cases c9 : ((t402 ++ (⟨#[32]⟩ : ByteArray)) ++ t403).size + 1 ≤ 9223372036854775807
        ·rw [if_pos c9] at H
         have c9b0 := eq_true c9
         have c9b1 : decide (((t402 ++ (⟨#[32]⟩ : ByteArray)) ++ t403).size + 1 ≤ 9223372036854775807) = true := decide_eq_true c9
         try have c9b2 : (9223372036854775807 < ((t402 ++ (⟨#[32]⟩ : ByteArray)) ++ t403).size + 1) = False := eq_false (Nat.not_lt.2 c9)
         have c9s := c9
         try simp only [ByteArray.size_append, show (⟨#[32]⟩ : ByteArray).size = 1 from rfl] at c9s
         have c9s0 := eq_true c9s;have c9s1 := decide_eq_true c9s
         try have c9s2 := eq_false (Nat.not_lt.2 c9s)
         replace H := Option.bind_eq_some_iff.mp H;obtain ⟨t404, A100, H⟩ := H;(try dsimp only at H);have A10 := M_ A100;clear A100
         by_cases c11 : (((t402 ++ (⟨#[32]⟩ : ByteArray)) ++ t403) ++ (⟨#[32]⟩ : ByteArray)).size + t404.size ≤ 9223372036854775807
         ·rw [if_pos c11] at H
          have c11b0 := eq_true c11
          have c11b1 : decide ((((t402 ++ (⟨#[32]⟩ : ByteArray)) ++ t403) ++ (⟨#[32]⟩ : ByteArray)).size + t404.size ≤ 9223372036854775807) = true := decide_eq_true c11
          try have c11b2 : (9223372036854775807 < (((t402 ++ (⟨#[32]⟩ : ByteArray)) ++ t403) ++ (⟨#[32]⟩ : ByteArray)).size + t404.size) = False := eq_false (Nat.not_lt.2 c11)
          have c11s := c11
          try simp only [ByteArray.size_append, show (⟨#[32]⟩ : ByteArray).size = 1 from rfl] at c11s
          have c11s0 := eq_true c11s;have c11s1 := decide_eq_true c11s
          try have c11s2 := eq_false (Nat.not_lt.2 c11s)
          by_cases c12 : ((((t402 ++ (⟨#[32]⟩ : ByteArray)) ++ t403) ++ (⟨#[32]⟩ : ByteArray)) ++ t404).size + 1 ≤ 9223372036854775807
          ·rw [if_pos c12] at H
           have c12b0 := eq_true c12
           have c12b1 : decide (((((t402 ++ (⟨#[32]⟩ : ByteArray)) ++ t403) ++ (⟨#[32]⟩ : ByteArray)) ++ t404).size + 1 ≤ 9223372036854775807) = true := decide_eq_true c12
           try have c12b2 : (9223372036854775807 < ((((t402 ++ (⟨#[32]⟩ : ByteArray)) ++ t403) ++ (⟨#[32]⟩ : ByteArray)) ++ t404).size + 1) = False := eq_false (Nat.not_lt.2 c12)
           have c12s := c12
           try simp only [ByteArray.size_append, show (⟨#[32]⟩ : ByteArray).size = 1 from rfl] at c12s
           have c12s0 := eq_true c12s;have c12s1 := decide_eq_true c12s
           try have c12s2 := eq_false (Nat.not_lt.2 c12s)
           by_cases c13 : x3_1.size + (((((t402 ++ (⟨#[32]⟩ : ByteArray)) ++ t403) ++ (⟨#[32]⟩ : ByteArray)) ++ t404) ++ (⟨#[10]⟩ : ByteArray)).size ≤ 9223372036854775807
           ·rw [if_pos c13] at H
            have c13b0 := eq_true c13
            have c13b1 : decide (x3_1.size + (((((t402 ++ (⟨#[32]⟩ : ByteArray)) ++ t403) ++ (⟨#[32]⟩ : ByteArray)) ++ t404) ++ (⟨#[10]⟩ : ByteArray)).size ≤ 9223372036854775807) = true := decide_eq_true c13
            try have c13b2 : (9223372036854775807 < x3_1.size + (((((t402 ++ (⟨#[32]⟩ : ByteArray)) ++ t403) ++ (⟨#[32]⟩ : ByteArray)) ++ t404) ++ (⟨#[10]⟩ : ByteArray)).size) = False := eq_false (Nat.not_lt.2 c13)
            have c13s := c13
            try simp only [ByteArray.size_append, show (⟨#[10]⟩ : ByteArray).size = 1 from rfl, show (⟨#[32]⟩ : ByteArray).size = 1 from rfl] at c13s
            have c13s0 := eq_true c13s;have c13s1 := decide_eq_true c13s
            try have c13s2 := eq_false (Nat.not_lt.2 c13s)
            have H' := M_ H
            clear H
            have p400 : 0 ≤ (x8_1 : Int) := dT_
            have q400 : x8_1 < (l0.length : Int) := dT_
            obtain ⟨ad400, e400, hx400_0, hx400_1, hx400_2⟩ := at_T31 HR0.out x8_1 p400 q400;cases e400;replace hx400_0 := (HB.out.cell (World.block_lt_of_cell? w _ hx400_0)).trans hx400_0;replace hx400_1 := (HB.out.cell (World.block_lt_of_cell? w _ hx400_1)).trans hx400_1;replace hx400_2 := (HB.out.cell (World.block_lt_of_cell? w _ hx400_2)).trans hx400_2;replace p400 := eq_true p400;replace q400 := eq_true q400
            try go_wp2_with (first | ((with_reducible refine gate_dst (N := 5) rfl ?_); refine bx_ (N := 5) (cs := #[.int .i64 0, .int .i64 0, .int .i64 0]) (t := 31) ?_; intro gb401 hg w14 hbox hb; have BK401 := M_ (hbox); have GW401 := M_ (gw_ HB hg); have GE401 := M_ (gw_ HB hg); replace HB := M_ (bS_ HB hb); clear hb hbox hg; obtain ⟨hcz15_0, hcz15_1, hcz15_2, hfz15_0, hfz15_1, hfz15_2⟩ := bq3_ BK401))
            have n0_ : Aside0 ((((w14.setCell ⟨gb401, 0, none⟩ (.int .i64 ((rd_T31 l0 x8_1).f0))).setCell ⟨gb401, 1, none⟩ (.int .i64 ((rd_T31 l0 x8_1).f1))).setCell ⟨gb401, 2, none⟩ (.int .i64 ((rd_T31 l0 x8_1).f2))).heap[gb401]? = some (.cells #[.int .i64 ((rd_T31 l0 x8_1).f0), .int .i64 ((rd_T31 l0 x8_1).f1), .int .i64 ((rd_T31 l0 x8_1).f2)] 31 (0, 0))) := ⟨by (with_reducible repeat (first | refine kn_ ?_ _ | refine kd_ ?_ | refine ka_ ?_ _)); refine blk_put (cs := #[.int .i64 ((rd_T31 l0 x8_1).f0), .int .i64 ((rd_T31 l0 x8_1).f1), .int .i64 0]) ?_ 2 _ rfl; (with_reducible repeat (first | refine kn_ ?_ _ | refine kd_ ?_ | refine ka_ ?_ _)); refine blk_put (cs := #[.int .i64 ((rd_T31 l0 x8_1).f0), .int .i64 0, .int .i64 0]) ?_ 1 _ rfl; (with_reducible repeat (first | refine kn_ ?_ _ | refine kd_ ?_ | refine ka_ ?_ _)); refine blk_put (cs := #[.int .i64 0, .int .i64 0, .int .i64 0]) ?_ 0 _ rfl; (with_reducible repeat (first | refine kn_ ?_ _ | refine kd_ ?_ | refine ka_ ?_ _)); exact BK401.out⟩
            have n1_ : Aside0 (Below w.heap.size w (((w14.setCell ⟨gb401, 0, none⟩ (.int .i64 ((rd_T31 l0 x8_1).f0))).setCell ⟨gb401, 1, none⟩ (.int .i64 ((rd_T31 l0 x8_1).f1))).setCell ⟨gb401, 2, none⟩ (.int .i64 ((rd_T31 l0 x8_1).f2)))) := ⟨bU_ HB⟩
            (try clear BK401)
            (try clear HB);generalize (((w14.setCell ⟨gb401, 0, none⟩ (.int .i64 ((rd_T31 l0 x8_1).f0))).setCell ⟨gb401, 1, none⟩ (.int .i64 ((rd_T31 l0 x8_1).f1))).setCell ⟨gb401, 2, none⟩ (.int .i64 ((rd_T31 l0 x8_1).f2))) = w16 at n0_ n1_ ⊢;have BK401 := n0_;have HB := n1_;clear n0_ n1_;replace BK401 := M_ (kd_ BK401.out); replace HB := M_ (b1_ HB.out);refine start_ (n := 17) (S := fun w' => w'.cell? ⟨gb401, 0, none⟩ = some (.int .i64 ((rd_T31 l0 x8_1).f0)) ∧ w'.cell? ⟨gb401, 1, none⟩ = some (.int .i64 ((rd_T31 l0 x8_1).f1)) ∧ w'.cell? ⟨gb401, 2, none⟩ = some (.int .i64 ((rd_T31 l0 x8_1).f2))) (ds := []) #[F,F,F,F,F,F,F,F,F,F,F,F,F,F,F,F,F] (by kernel_rfl) rfl rfl ⟨bc0_ BK401, bc1_ BK401, bc2_ BK401⟩ (fun hHeld => ?_); refine with_tabW spec_ntText.tab5 spec_ntText.bits5 (fun HT_ HW_ => ?_);generalize w16.drew = w17 at BK401 HB hHeld ⊢;refine pR_ (i := 0) (N := some 12) #[T,F,F,F,F,F,F,F,F,F,F,F,F,F,F,F,F] ?_;refine pR_ (i := 1) (N := some 13) #[T,T,F,F,F,F,F,F,F,F,F,F,F,F,F,F,F] ?_;refine pR_ (i := 5) (N := some 17) #[T,T,F,F,F,T,F,F,F,F,F,F,F,F,F,F,F] ?_;refine pR_ (i := 10) (N := some 22) #[T,T,F,F,F,T,F,F,F,F,T,F,F,F,F,F,F] ?_;refine take_ (i := 2) (N := some 14) (v := ?_) (a' := ?_) #[T,T,T,F,F,T,F,F,F,F,T,F,F,F,F,F,F] rfl rfl (take_ofW HT_.out HW_.out (by kernel_rfl)) (fun _ _ _ h => h) (Or.inl ⟨by rfl, ?_⟩) hHeld ?_ ?_;rotate_left
            ·rintro w' ⟨s0, s1, s2⟩
             go_simp;with_reducible rfl
            rotate_left
            ·simp only [Act.put, la_, lb_, lc_, i64_w, i32_w]
             rfl
            refine take_ (i := 6) (N := some 18) (v := ?_) (a' := ?_) #[T,T,T,F,F,T,T,F,F,F,T,F,F,F,F,F,F] rfl rfl (take_ofW HT_.out HW_.out (by kernel_rfl)) (fun _ _ _ h => h) (Or.inl ⟨by rfl, ?_⟩) hHeld ?_ ?_;rotate_left
            ·rintro w' ⟨s0, s1, s2⟩
             go_simp;with_reducible rfl
            rotate_left
            ·simp only [Act.put, la_, lb_, lc_, i64_w, i32_w]
             rfl
            refine take_ (i := 11) (N := some 23) (v := ?_) (a' := ?_) #[T,T,T,F,F,T,T,F,F,F,T,T,F,F,F,F,F] rfl rfl (take_ofW HT_.out HW_.out (by kernel_rfl)) (fun _ _ _ h => h) (Or.inl ⟨by rfl, ?_⟩) hHeld ?_ ?_;rotate_left
            ·rintro w' ⟨s0, s1, s2⟩
             go_simp;with_reducible rfl
            rotate_left
            ·simp only [Act.put, la_, lb_, lc_, i64_w, i32_w]
             rfl
            refine one_ (i := 3) (N := some 15) #[T,T,T,T,F,T,T,F,F,F,T,T,F,F,F,F,F] rfl rfl (one_of HT_.out (by kernel_rfl)) (by decide) (fun K hK => ?_);refine gS_ Tryz.func57 #[.int .i64 ((rd_T31 l0 x8_1).f0)] ?_
            with_reducible refine (spec_ntName.calls k1 ((rd_T31 l0 x8_1).f0) t402 _ A5.out).mono ?_
            rintro e w18 ⟨rfl, hb⟩;refine ⟨_, rfl, ?_⟩;replace BK401 := M_ (kb_ BK401 hb); replace HB := M_ (bS_ HB hb);clear hb;refine hK.out _ _ ⟨bc0_ BK401, bc1_ BK401, bc2_ BK401⟩ (fun hHeld => ?_);clear hK K;refine nM_ (some 15) ?_;refine pR_ (i := 4) (N := some 16) #[T,T,T,T,T,T,T,F,F,F,T,T,F,F,F,F,F] ?_;refine one_ (i := 7) (N := some 19) #[T,T,T,T,T,T,T,T,F,F,T,T,F,F,F,F,F] rfl rfl (one_of HT_.out (by kernel_rfl)) (by decide) (fun K hK => ?_);refine gS_ Tryz.func86 #[.int .i64 ((rd_T31 l0 x8_1).f1)] ?_
            with_reducible refine (spec_l1Num.calls k1 ((rd_T31 l0 x8_1).f1) t403 _ A7.out).mono ?_
            rintro e w19 ⟨rfl, hb⟩;refine ⟨_, rfl, ?_⟩;replace BK401 := M_ (kb_ BK401 hb); replace HB := M_ (bS_ HB hb);clear hb;refine hK.out _ _ ⟨bc0_ BK401, bc1_ BK401, bc2_ BK401⟩ (fun hHeld => ?_);clear hK K;refine nM_ (some 19) ?_;refine pR_ (i := 8) (N := some 20) #[T,T,T,T,T,T,T,T,T,F,T,T,F,F,F,F,F] ?_;refine pR_ (i := 9) (N := some 21) #[T,T,T,T,T,T,T,T,T,T,T,T,F,F,F,F,F] ?_;refine one_ (i := 12) (N := some 24) #[T,T,T,T,T,T,T,T,T,T,T,T,T,F,F,F,F] rfl rfl (one_of HT_.out (by kernel_rfl)) (by decide) (fun K hK => ?_);refine gS_ Tryz.func86 #[.int .i64 ((rd_T31 l0 x8_1).f2)] ?_
            with_reducible refine (spec_l1Num.calls k1 ((rd_T31 l0 x8_1).f2) t404 _ A10.out).mono ?_
            rintro e w20 ⟨rfl, hb⟩;refine ⟨_, rfl, ?_⟩;replace BK401 := M_ (kb_ BK401 hb); replace HB := M_ (bS_ HB hb);clear hb;refine hK.out _ _ ⟨bc0_ BK401, bc1_ BK401, bc2_ BK401⟩ (fun hHeld => ?_);clear hK K;refine nM_ (some 24) ?_;refine pR_ (i := 13) (N := some 25) #[T,T,T,T,T,T,T,T,T,T,T,T,T,T,F,F,F] ?_;refine pR_ (i := 14) (N := some 26) #[T,T,T,T,T,T,T,T,T,T,T,T,T,T,T,F,F] ?_;refine pR_ (i := 15) (N := some 27) #[T,T,T,T,T,T,T,T,T,T,T,T,T,T,T,T,F] ?_;refine pR_ (i := 16) (N := some 3) #[T,T,T,T,T,T,T,T,T,T,T,T,T,T,T,T,T] ?_;refine done_ (done_of HT_.out (by kernel_rfl)) ?_
            try go_wp2
            go_roundg k1
            case measure => have := HK1.out; omega
            case rel => exact ⟨(x3_1 ++ (((((t402 ++ (⟨#[32]⟩ : ByteArray)) ++ t403) ++ (⟨#[32]⟩ : ByteArray)) ++ t404) ++ (⟨#[10]⟩ : ByteArray))), (wrap64 (x8_1 + 1)), eD_, eD_, H', ⟨by have := HK1.out; omega⟩, ⟨bU_ HB⟩⟩
           ·rw [if_neg c13] at H
            exact absurd H (by simp)
          ·rw [if_neg c12] at H
           exact absurd H (by simp)
         ·rw [if_neg c11] at H
          exact absurd H (by simp)
        ·rw [if_neg c9] at H
         exact absurd H (by simp)
       ·rw [if_neg c8] at H
        exact absurd H (by simp)
      ·rw [if_neg c6] at H
       exact absurd H (by simp)
     ·rw [if_neg c4] at H
      exact absurd H (by simp)
    ·rw [if_neg c3] at H
     exact absurd H (by simp)
   ·rw [if_neg c2] at H
    have c2b0 : decide (x8_1 < (l0.length : Int)) = false := decide_eq_false c2
    clear c2;obtain rfl := Option.some.inj H
    go_wp2
    go_ret
    exact ⟨eR_, bU_ HB⟩
def spec_ScoreText.f (k : Nat) (l0 : List (S31)) : Option (ByteArray × Bool) := (spec_ntGood.f k l0).bind fun t405 => (if t405 = true then ((spec_ntText.f k l0).bind fun t406 => (some (t406, true))) else (some ((⟨#[]⟩ : ByteArray), false)))
theorem spec_ScoreText.mono : ∀ a0 k, LeO (spec_ScoreText.f k a0) (spec_ScoreText.f (k + 1) a0) := by
 intro a0 k
 unfold spec_ScoreText.f
 have m0_ := @spec_ntGood.mono;have m1_ := @spec_ntText.mono;exact mo_
set_option maxHeartbeats 8000000 in
set_option maxRecDepth 100000 in
theorem spec_ScoreText.calls (k : Nat) (A0 : Option Addr) (c0 : Nat) (l0 : List (S31)) (r1 : ByteArray) (r2 : Bool) (w : World) (hr0 : Kd.C k31 w A0 l0.length l0) (hc0 : l0.length ≤ c0) (h : spec_ScoreText.f k l0 = some (r1, r2)) :
  Calls Tryz.prog 29 #[.slice A0 l0.length c0] w fun e w' => e = .returned (.tuple #[.string r1, .bool r2]) ∧ Below w.heap.size w w' := by
 have HR0 := M_ hr0;have HC0 := M_ hc0;clear hr0 hc0;have HB := M_ (Below.refl w.heap.size w)
 have H : ((spec_ntGood.f k l0).bind fun t405 => (if t405 = true then ((spec_ntText.f k l0).bind fun t406 => (some (t406, true))) else (some ((⟨#[]⟩ : ByteArray), false)))) = some (r1, r2) := h
 clear h;replace H := Option.bind_eq_some_iff.mp H;obtain ⟨t405, A20, H⟩ := H;(try dsimp only at H);have A2 := M_ A20;clear A20
 by_cases c3 : t405 = true
 focus
  subst c3
  rw [if_pos rfl] at H
  replace H := Option.bind_eq_some_iff.mp H;obtain ⟨t406, A40, H⟩ := H;replace H : (some (t406, true)) = some (r1, r2) := H;have A4 := M_ A40;clear A40;simp only [Option.some.injEq, Prod.mk.injEq] at H;obtain ⟨rfl, rfl⟩ := H
 rotate_left
 focus
  replace c3 := Bool.eq_false_iff.mpr c3
  subst c3
  rw [if_neg (show ¬ (false = true) by decide)] at H
  simp only [Option.some.injEq, Prod.mk.injEq] at H;obtain ⟨rfl, rfl⟩ := H
 rotate_left
 all_goals
  go_enter Tryz.func29, Tryz.ntmps29
  go_wp2_with (first | ((with_reducible refine gc_ 49 ?_); refine gM_ (some 5) Tryz.func49 #[.slice A0 l0.length c0] ?_; (with_reducible refine (spec_ntGood.calls k _ _ l0 _ _ ?side1 ?side2 A2.out).mono ?_); (case side1 => exact cU_ HR0.out); (case side2 => exact HC0.out); rintro e w5 ⟨rfl, hb⟩; refine ⟨_, rfl, ?_⟩; replace HB := M_ (bS_ HB hb); clear hb) | ((with_reducible refine gc_ 58 ?_); refine gM_ (some 8) Tryz.func58 #[.slice A0 l0.length c0] ?_; (with_reducible refine (spec_ntText.calls k _ _ l0 t406 _ ?side1 ?side2 A4.out).mono ?_); (case side1 => exact cU_ (Kd.C_below HR0.out HB.out)); (case side2 => exact HC0.out); rintro e w6 ⟨rfl, hb⟩; refine ⟨_, rfl, ?_⟩; replace HB := M_ (bS_ HB hb); clear hb))
  go_ret2
  exact ⟨eR_, bU_ HB⟩
def impl_EndOfScore.l0 : Nat → Int → List (S31) → Int → Int → Option (Int × Bool)
 | 0, _, _, _, _ => none
 | k + 1, x4, x10, x11, x12 => if x12 < x11 then (if 0 ≤ x12 then (if x12 < (x10.length : Int) then ((impl_noteEnd.f ((rd_T31 x10 x12).f0) ((rd_T31 x10 x12).f1) ((rd_T31 x10 x12).f2)).bind fun t410 => (impl_EndOfScore.l0 k (mx x4 t410) x10 x11 (wrap64 (x12 + 1)))) else (none)) else (none)) else (some (x4, true))
def impl_EndOfScore.f (k : Nat) (l0 : List (S31)) : Option (Int × Bool) := (impl_IsScore.f k l0).bind fun t407 => (if t407 = true then (impl_EndOfScore.l0 k 0 l0 (l0.length : Int) 0) else (some (0, false)))
theorem impl_EndOfScore.mono_l : ∀ k, (∀ y0 y1 y2 y3, LeO (impl_EndOfScore.l0 k y0 y1 y2 y3) (impl_EndOfScore.l0 (k + 1) y0 y1 y2 y3))
 | 0 => fun _ _ _ _ r h => by simp [impl_EndOfScore.l0] at h
 | k + 1 => by
  have ih0 := impl_EndOfScore.mono_l k
  ·intro y0 y1 y2 y3
   unfold impl_EndOfScore.l0
   have m0_ := @impl_IsScore.mono;exact mo_
theorem impl_EndOfScore.mono : ∀ a0 k, LeO (impl_EndOfScore.f k a0) (impl_EndOfScore.f (k + 1) a0) := by
 intro a0 k;have ih0 := impl_EndOfScore.mono_l k
 unfold impl_EndOfScore.f
 have m0_ := @impl_IsScore.mono;exact mo_
set_option maxHeartbeats 8000000 in
set_option maxRecDepth 100000 in
theorem impl_EndOfScore.calls (k : Nat) (A0 : Option Addr) (c0 : Nat) (l0 : List (S31)) (r1 : Int) (r2 : Bool) (w : World) (hr0 : Kd.C k31 w A0 l0.length l0) (hc0 : l0.length ≤ c0) (h : impl_EndOfScore.f k l0 = some (r1, r2)) :
  Calls Tryz.prog 30 #[.slice A0 l0.length c0] w fun e w' => e = .returned (.tuple #[.int .i64 r1, .bool r2]) ∧ Below w.heap.size w w' := by
 have hu31 := Tryz.underlying31;have HR0 := M_ hr0;have HC0 := M_ hc0;clear hr0 hc0;have HB := M_ (Below.refl w.heap.size w)
 have H : ((impl_IsScore.f k l0).bind fun t407 => (if t407 = true then (impl_EndOfScore.l0 k 0 l0 (l0.length : Int) 0) else (some (0, false)))) = some (r1, r2) := h
 clear h;replace H := Option.bind_eq_some_iff.mp H;obtain ⟨t407, A20, H⟩ := H;(try dsimp only at H);have A2 := M_ A20;clear A20
 by_cases c3 : t407 = true
 focus
  subst c3
  rw [if_pos rfl] at H
  have H' := M_ H
  clear H
 rotate_left
 focus
  replace c3 := Bool.eq_false_iff.mpr c3
  subst c3
  rw [if_neg (show ¬ (false = true) by decide)] at H
  simp only [Option.some.injEq, Prod.mk.injEq] at H;obtain ⟨rfl, rfl⟩ := H
 rotate_left
 all_goals
  go_enter Tryz.func30, Tryz.ntmps30
  go_wp2_with (first | ((with_reducible refine gc_ 10 ?_); refine gM_ (some 8) Tryz.func10 #[.slice A0 l0.length c0] ?_; (with_reducible refine (impl_IsScore.calls k _ _ l0 _ _ ?side1 ?side2 A2.out).mono ?_); (case side1 => exact cU_ HR0.out); (case side2 => exact HC0.out); rintro e w4 ⟨rfl, hb⟩; refine ⟨_, rfl, ?_⟩; replace HB := M_ (bS_ HB hb); clear hb))
 ·go_loopg [4, 12] k (fun kq v4 v12 w' => ∃ (x4_1 : Int) (x12_1 : Int), v4 = .int .i64 x4_1 ∧ v12 = .int .i64 x12_1 ∧ Aside0 (impl_EndOfScore.l0 kq x4_1 l0 (l0.length : Int) x12_1 = some (r1, r2)) ∧ Aside0 (kq ≤ k) ∧ Aside0 (Below w.heap.size w w'))
  case atStart => exact ⟨(0), (0), eD_, eD_, H', ⟨Nat.le_refl _⟩, ⟨bU_ HB⟩⟩
  case round =>
   clear H';obtain ⟨x4_1, x12_1, rfl, rfl, HA, HK1, HB⟩ := hrel
   cases gk with
   | zero => exact absurd HA.out (by simp [impl_EndOfScore.l0])
   | succ k1 =>
    have H := HA.out;clear HA;simp only [impl_EndOfScore.l0] at H
    by_cases c5 : x12_1 < (l0.length : Int)
    ·rw [if_pos c5] at H
     have c5b0 : decide (x12_1 < (l0.length : Int)) = true := decide_eq_true c5
     clear c5
     by_cases c6 : 0 ≤ x12_1
     ·rw [if_pos c6] at H
      have c6b0 : decide (0 ≤ x12_1) = true := decide_eq_true c6
      clear c6
      by_cases c7 : x12_1 < (l0.length : Int)
      ·rw [if_pos c7] at H
       have c7b0 : decide (x12_1 < (l0.length : Int)) = true := decide_eq_true c7
       clear c7;replace H := Option.bind_eq_some_iff.mp H;obtain ⟨t410, A80, H⟩ := H;(try dsimp only at H);have A8 := M_ A80;clear A80;obtain ⟨ji9, hji9⟩ : ∃ j_ : Int, (mx x4_1 t410) = j_ := ⟨_, rfl⟩
       replace H : (impl_EndOfScore.l0 k1 ji9 l0 (l0.length : Int) (wrap64 (x12_1 + 1))) = some (r1, r2) := by first | (rw [hji9] at H; exact H) | (simp only [hji9] at H ⊢; exact H)
       (try rw [hji9] at A8)
       have hji9_ : (if x4_1 < t410 then t410 else x4_1) = ji9 := hji9
       have H' := M_ H
       clear H
       have p408 : 0 ≤ (x12_1 : Int) := dT_
       have q408 : x12_1 < (l0.length : Int) := dT_
       obtain ⟨ad408, e408, hx408_0, hx408_1, hx408_2⟩ := at_T31 HR0.out x12_1 p408 q408;cases e408;replace hx408_0 := (HB.out.cell (World.block_lt_of_cell? w _ hx408_0)).trans hx408_0;replace hx408_1 := (HB.out.cell (World.block_lt_of_cell? w _ hx408_1)).trans hx408_1;replace hx408_2 := (HB.out.cell (World.block_lt_of_cell? w _ hx408_2)).trans hx408_2;replace p408 := eq_true p408;replace q408 := eq_true q408
       go_wp2_with (first | ((with_reducible refine gate_dst (N := 6) rfl ?_); refine bx_ (N := 6) (cs := #[.int .i64 0, .int .i64 0, .int .i64 0]) (t := 31) ?_; intro gb409 hg w10 hbox hb; have BK409 := M_ (hbox); have GW409 := M_ (gw_ HB hg); have GE409 := M_ (gw_ HB hg); replace HB := M_ (bS_ HB hb); clear hb hbox hg; obtain ⟨hcz11_0, hcz11_1, hcz11_2, hfz11_0, hfz11_1, hfz11_2⟩ := bq3_ BK409) | ((with_reducible refine gc_ 47 ?_); refine gM_ (some 18) Tryz.func47 #[.agg #[.int .i64 ((rd_T31 l0 x12_1).f0), .int .i64 ((rd_T31 l0 x12_1).f1), .int .i64 ((rd_T31 l0 x12_1).f2)]] ?_; (with_reducible refine (impl_noteEnd.calls ((rd_T31 l0 x12_1).f0) ((rd_T31 l0 x12_1).f1) ((rd_T31 l0 x12_1).f2) t410 _ A8.out).mono ?_); rintro e w12 ⟨rfl, hb⟩; refine ⟨_, rfl, ?_⟩; replace BK409 := M_ (blk_below (g := gb409) (o := .cells #[.int .i64 ((rd_T31 l0 x12_1).f0), .int .i64 ((rd_T31 l0 x12_1).f1), .int .i64 ((rd_T31 l0 x12_1).f2)] 31 (0, 0)) (by (with_reducible repeat (first | refine kn_ ?_ _ | refine kd_ ?_ | refine ka_ ?_ _)); refine blk_put (cs := #[.int .i64 ((rd_T31 l0 x12_1).f0), .int .i64 ((rd_T31 l0 x12_1).f1), .int .i64 0]) ?_ 2 _ rfl; (with_reducible repeat (first | refine kn_ ?_ _ | refine kd_ ?_ | refine ka_ ?_ _)); refine blk_put (cs := #[.int .i64 ((rd_T31 l0 x12_1).f0), .int .i64 0, .int .i64 0]) ?_ 1 _ rfl; (with_reducible repeat (first | refine kn_ ?_ _ | refine kd_ ?_ | refine ka_ ?_ _)); refine blk_put (cs := #[.int .i64 0, .int .i64 0, .int .i64 0]) ?_ 0 _ rfl; (with_reducible repeat (first | refine kn_ ?_ _ | refine kd_ ?_ | refine ka_ ?_ _)); exact BK409.out) hb); replace HB := M_ (bS_ HB hb); clear hb))
       go_roundg k1
       case measure => have := HK1.out; omega
       case rel => exact ⟨(ji9), (wrap64 (x12_1 + 1)), (by first | rfl | (simp; done) | (simp only [← hji9] <;> (first | rfl | simp)) | (simp [*]; done)), eD_, H', ⟨by have := HK1.out; omega⟩, ⟨bU_ HB⟩⟩
      ·rw [if_neg c7] at H
       exact absurd H (by simp)
     ·rw [if_neg c6] at H
      exact absurd H (by simp)
    ·rw [if_neg c5] at H
     have c5b0 : decide (x12_1 < (l0.length : Int)) = false := decide_eq_false c5
     clear c5;simp only [Option.some.injEq, Prod.mk.injEq] at H;obtain ⟨rfl, rfl⟩ := H
     go_wp2
     go_ret2
     exact ⟨eR_, bU_ HB⟩
 ·go_ret2
  exact ⟨eR_, bU_ HB⟩
def spec_l1Most.f (a0 : Int) (a1 : Int) : Option (Int) := if a0 > a1 then (some a0) else (some a1)
set_option maxHeartbeats 8000000 in
set_option maxRecDepth 100000 in
theorem spec_l1Most.calls (a0 : Int) (a1 : Int) (r : Int) (w : World) (h : spec_l1Most.f a0 a1 = some r) :
  Calls Tryz.prog 75 #[.int .i64 a0, .int .i64 a1] w fun e w' => e = .returned (.int .i64 r) ∧ Drawn0 w w' := by
 have H : (if a0 > a1 then (some a0) else (some a1)) = some r := h
 clear h
 by_cases c3 : a0 > a1
 ·rw [if_pos c3] at H
  have c3b0 : decide (a1 < a0) = true := decide_eq_true c3
  clear c3;obtain rfl := Option.some.inj H
  go_enter Tryz.func75, Tryz.ntmps75
  go_wp2
  go_ret
  exact ⟨by first | rfl | (simp; done) | (simp [*]; done), by repeat (first | exact Drawn0.refl _ | apply Drawn0.step)⟩
 ·rw [if_neg c3] at H
  have c3b0 : decide (a1 < a0) = false := decide_eq_false c3
  clear c3;obtain rfl := Option.some.inj H
  go_enter Tryz.func75, Tryz.ntmps75
  go_wp2
  go_ret
  exact ⟨by first | rfl | (simp; done) | (simp [*]; done), by repeat (first | exact Drawn0.refl _ | apply Drawn0.step)⟩
def spec_ntEnd.l0 : Nat → Int → List (S31) → Int → Int → Option (Int)
 | 0, _, _, _, _ => none
 | k + 1, x3, x6, x7, x8 => if x8 < x7 then (if 0 ≤ x8 then (if x8 < (x6.length : Int) then ((spec_l1Most.f x3 (wrap64 (((rd_T31 x6 x8).f1) + ((rd_T31 x6 x8).f2)))).bind fun t413 => (spec_ntEnd.l0 k t413 x6 x7 (wrap64 (x8 + 1)))) else (none)) else (none)) else (some x3)
def spec_ntEnd.f (k : Nat) (l0 : List (S31)) : Option (Int) := spec_ntEnd.l0 k 0 l0 (l0.length : Int) 0
theorem spec_ntEnd.mono_l : ∀ k, (∀ y0 y1 y2 y3, LeO (spec_ntEnd.l0 k y0 y1 y2 y3) (spec_ntEnd.l0 (k + 1) y0 y1 y2 y3))
 | 0 => fun _ _ _ _ r h => by simp [spec_ntEnd.l0] at h
 | k + 1 => by
  have ih0 := spec_ntEnd.mono_l k
  ·intro y0 y1 y2 y3
   unfold spec_ntEnd.l0
   exact mo_
theorem spec_ntEnd.mono : ∀ a0 k, LeO (spec_ntEnd.f k a0) (spec_ntEnd.f (k + 1) a0) := by
 intro a0 k;have ih0 := spec_ntEnd.mono_l k
 unfold spec_ntEnd.f
 exact mo_
set_option maxHeartbeats 8000000 in
set_option maxRecDepth 100000 in
theorem spec_ntEnd.calls (k : Nat) (A0 : Option Addr) (c0 : Nat) (l0 : List (S31)) (r : Int) (w : World) (hr0 : Kd.C k31 w A0 l0.length l0) (hc0 : l0.length ≤ c0) (h : spec_ntEnd.f k l0 = some r) :
  Calls Tryz.prog 73 #[.slice A0 l0.length c0] w fun e w' => e = .returned (.int .i64 r) ∧ Below w.heap.size w w' := by
 have hu31 := Tryz.underlying31;have HR0 := M_ hr0;have HC0 := M_ hc0;clear hr0 hc0;have HB := M_ (Below.refl w.heap.size w)
 have H : (spec_ntEnd.l0 k 0 l0 (l0.length : Int) 0) = some r := h
 clear h
 have H' := M_ H
 clear H
 go_enter Tryz.func73, Tryz.ntmps73
 go_wp2
 go_loopg [3, 8] k (fun kq v3 v8 w' => ∃ (x3_1 : Int) (x8_1 : Int), v3 = .int .i64 x3_1 ∧ v8 = .int .i64 x8_1 ∧ Aside0 (spec_ntEnd.l0 kq x3_1 l0 (l0.length : Int) x8_1 = some r) ∧ Aside0 (kq ≤ k) ∧ Aside0 (Below w.heap.size w w'))
 case atStart => exact ⟨(0), (0), eD_, eD_, H', ⟨Nat.le_refl _⟩, ⟨bU_ HB⟩⟩
 case round =>
  clear H';obtain ⟨x3_1, x8_1, rfl, rfl, HA, HK1, HB⟩ := hrel
  cases gk with
  | zero => exact absurd HA.out (by simp [spec_ntEnd.l0])
  | succ k1 =>
   have H := HA.out;clear HA;simp only [spec_ntEnd.l0] at H
   by_cases c2 : x8_1 < (l0.length : Int)
   ·rw [if_pos c2] at H
    have c2b0 : decide (x8_1 < (l0.length : Int)) = true := decide_eq_true c2
    clear c2
    by_cases c3 : 0 ≤ x8_1
    ·rw [if_pos c3] at H
     have c3b0 : decide (0 ≤ x8_1) = true := decide_eq_true c3
     clear c3
     by_cases c4 : x8_1 < (l0.length : Int)
     ·rw [if_pos c4] at H
      have c4b0 : decide (x8_1 < (l0.length : Int)) = true := decide_eq_true c4
      clear c4;replace H := Option.bind_eq_some_iff.mp H;obtain ⟨t413, A50, H⟩ := H;(try dsimp only at H);have A5 := M_ A50;clear A50
      have H' := M_ H
      clear H
      have p411 : 0 ≤ (x8_1 : Int) := dT_
      have q411 : x8_1 < (l0.length : Int) := dT_
      obtain ⟨ad411, e411, hx411_0, hx411_1, hx411_2⟩ := at_T31 HR0.out x8_1 p411 q411;cases e411;replace hx411_0 := (HB.out.cell (World.block_lt_of_cell? w _ hx411_0)).trans hx411_0;replace hx411_1 := (HB.out.cell (World.block_lt_of_cell? w _ hx411_1)).trans hx411_1;replace hx411_2 := (HB.out.cell (World.block_lt_of_cell? w _ hx411_2)).trans hx411_2;replace p411 := eq_true p411;replace q411 := eq_true q411
      go_wp2_with (first | ((with_reducible refine gate_dst (N := 5) rfl ?_); refine bx_ (N := 5) (cs := #[.int .i64 0, .int .i64 0, .int .i64 0]) (t := 31) ?_; intro gb412 hg w6 hbox hb; have BK412 := M_ (hbox); have GW412 := M_ (gw_ HB hg); have GE412 := M_ (gw_ HB hg); replace HB := M_ (bS_ HB hb); clear hb hbox hg; obtain ⟨hcz7_0, hcz7_1, hcz7_2, hfz7_0, hfz7_1, hfz7_2⟩ := bq3_ BK412) | ((with_reducible refine gc_ 75 ?_); refine gM_ (some 18) Tryz.func75 #[.int .i64 x3_1, .int .i64 (wrap64 (((rd_T31 l0 x8_1).f1) + ((rd_T31 l0 x8_1).f2)))] ?_; (with_reducible refine (spec_l1Most.calls x3_1 (wrap64 (((rd_T31 l0 x8_1).f1) + ((rd_T31 l0 x8_1).f2))) t413 _ A5.out).mono ?_); rintro e w' ⟨rfl, ⟨nd, rfl⟩⟩; refine ⟨_, rfl, ?_⟩))
      go_roundg k1
      case measure => have := HK1.out; omega
      case rel => exact ⟨(t413), (wrap64 (x8_1 + 1)), eD_, eD_, H', ⟨by have := HK1.out; omega⟩, ⟨bU_ HB⟩⟩
     ·rw [if_neg c4] at H
      exact absurd H (by simp)
    ·rw [if_neg c3] at H
     exact absurd H (by simp)
   ·rw [if_neg c2] at H
    have c2b0 : decide (x8_1 < (l0.length : Int)) = false := decide_eq_false c2
    clear c2;obtain rfl := Option.some.inj H
    go_wp2
    go_ret
    exact ⟨eR_, bU_ HB⟩
end Go.Proofs.YtfpfjnmjekjnhaaGreatDoor.PFnScores
