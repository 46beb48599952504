-- by wip/xprint.py, over the kit's printer
import Derived.Test.YtpkklbjdhmpjnaaGreatDoorPFnInstrumentsx0
import Derived.Test.YtpkklbjdhmpjnaaGreatDoorPFnInstrumentsx4
namespace Go.Proofs.YtpkklbjdhmpjnaaGreatDoor.PFnInstruments
open Go.RowKit Go.Proofs.YtpkklbjdhmpjnaaGreatDoorW.PrintWords Go.Proofs.YtpkklbjdhmpjnaaGreatDoorW.PrintLast Go.Proofs.YtpkklbjdhmpjnaaGreatDoorW.PrintMore
attribute [local go_sem] max2_int min2_int max_two min_two max_three min_three max_four min_four   -- for this text's walks alone
set_option linter.unusedVariables false
set_option linter.unusedSimpArgs false

def spec_inGood.f (k : Nat) (l0_0 : List Int) (a0_1 : Int) : Option (Bool) := (spec_l1In.f (l0_0.length : Int) 1 20).bind fun t265 => (if t265 = true then ((spec_l1Rising.f k l0_0 24 96).bind fun t266 => (if t266 = true then ((spec_l1In.f a0_1 1 20).bind fun t267 => (some t267)) else (some false))) else (some false))
theorem spec_inGood.mono : ∀ a0 a1 k, LeO (spec_inGood.f k a0 a1) (spec_inGood.f (k + 1) a0 a1) := by
 intro a0 a1 k
 unfold spec_inGood.f
 have m0_ := @spec_l1Rising.mono;exact mo_
set_option maxHeartbeats 8000000 in
set_option maxRecDepth 100000 in
theorem spec_inGood.calls (k : Nat) (A0_0 : Option Addr) (c0_0 : Nat) (l0_0 : List Int) (a0_1 : Int) (r : Bool) (w : World) (hr0_0 : Kd.C (Kd.int .i64) w A0_0 l0_0.length l0_0) (hc0_0 : l0_0.length ≤ c0_0) (h : spec_inGood.f k l0_0 a0_1 = some r) :
  Calls Tryz.prog 27 #[.agg #[.slice A0_0 l0_0.length c0_0, .int .i64 a0_1]] w fun e w' => e = .returned (.bool r) ∧ Below w.heap.size w w' := by
 have hu25 := Tryz.underlying25;have HR0_0 := M_ hr0_0;have HC0_0 := M_ hc0_0;clear hr0_0 hc0_0;have HB := M_ (Below.refl w.heap.size w)
 have H : ((spec_l1In.f (l0_0.length : Int) 1 20).bind fun t265 => (if t265 = true then ((spec_l1Rising.f k l0_0 24 96).bind fun t266 => (if t266 = true then ((spec_l1In.f a0_1 1 20).bind fun t267 => (some t267)) else (some false))) else (some false))) = some r := h
 clear h;replace H := Option.bind_eq_some_iff.mp H;obtain ⟨t265, A20, H⟩ := H;(try dsimp only at H);have A2 := M_ A20;clear A20
 by_cases c3 : t265 = true
 ·subst c3
  rw [if_pos rfl] at H
  replace H := Option.bind_eq_some_iff.mp H;obtain ⟨t266, A40, H⟩ := H;(try dsimp only at H);have A4 := M_ A40;clear A40
  by_cases c5 : t266 = true
  ·subst c5
   rw [if_pos rfl] at H
   replace H := Option.bind_eq_some_iff.mp H;obtain ⟨t267, A60, H⟩ := H;replace H : (some t267) = some r := H;have A6 := M_ A60;clear A60;obtain rfl := Option.some.inj H
   go_enter Tryz.func27, Tryz.ntmps27
   go_wp2_with (first | ((with_reducible refine gate_dst (N := 1) rfl ?_); refine bx_ (N := 1) (cs := #[.slice A0_0 l0_0.length c0_0, .int .i64 a0_1]) (t := 25) ?_; intro gb264 hg w7 hbox hb; have BK264 := M_ (hbox); have GW264 := M_ (gw_ HB hg); have GE264 := M_ (gw_ HB hg); replace HB := M_ (bS_ HB hb); clear hb hbox hg; obtain ⟨hcz8_0, hcz8_1, hfz8_0, hfz8_1⟩ := bq2_ BK264) | ((with_reducible refine gc_ 42 ?_); refine gM_ (some 6) Tryz.func42 #[.int .i64 (l0_0.length : Int), .int .i64 1, .int .i64 20] ?_; (with_reducible refine (spec_l1In.calls (l0_0.length : Int) 1 20 true _ A2.out).mono ?_); rintro e w' ⟨rfl, ⟨nd, rfl⟩⟩; refine ⟨_, rfl, ?_⟩) | (go_at_call 55; (with_reducible refine (spec_l1Rising.calls k _ _ l0_0 24 96 true _ ?side1 ?side2 A4.out).mono ?_); (case side1 => exact cU_ (Kd.C_below HR0_0.out (bU_ HB))); (case side2 => exact HC0_0.out); rintro e w' ⟨rfl, ⟨nd, rfl⟩⟩) | (go_at_call 42; (with_reducible refine (spec_l1In.calls a0_1 1 20 t267 _ A6.out).mono ?_); rintro e w' ⟨rfl, ⟨nd, rfl⟩⟩))
   go_ret
   exact ⟨eR_, bU_ HB⟩
  ·replace c5 := Bool.eq_false_iff.mpr c5
   subst c5
   rw [if_neg (show ¬ (false = true) by decide)] at H
   obtain rfl := Option.some.inj H
   go_enter Tryz.func27, Tryz.ntmps27
   go_wp2_with (first | ((with_reducible refine gate_dst (N := 1) rfl ?_); refine bx_ (N := 1) (cs := #[.slice A0_0 l0_0.length c0_0, .int .i64 a0_1]) (t := 25) ?_; intro gb264 hg w9 hbox hb; have BK264 := M_ (hbox); have GW264 := M_ (gw_ HB hg); have GE264 := M_ (gw_ HB hg); replace HB := M_ (bS_ HB hb); clear hb hbox hg; obtain ⟨hcz10_0, hcz10_1, hfz10_0, hfz10_1⟩ := bq2_ BK264) | ((with_reducible refine gc_ 42 ?_); refine gM_ (some 6) Tryz.func42 #[.int .i64 (l0_0.length : Int), .int .i64 1, .int .i64 20] ?_; (with_reducible refine (spec_l1In.calls (l0_0.length : Int) 1 20 true _ A2.out).mono ?_); rintro e w' ⟨rfl, ⟨nd, rfl⟩⟩; refine ⟨_, rfl, ?_⟩) | (go_at_call 55; (with_reducible refine (spec_l1Rising.calls k _ _ l0_0 24 96 false _ ?side1 ?side2 A4.out).mono ?_); (case side1 => exact cU_ (Kd.C_below HR0_0.out (bU_ HB))); (case side2 => exact HC0_0.out); rintro e w' ⟨rfl, ⟨nd, rfl⟩⟩))
   go_ret
   exact ⟨eR_, bU_ HB⟩
 ·replace c3 := Bool.eq_false_iff.mpr c3
  subst c3
  rw [if_neg (show ¬ (false = true) by decide)] at H
  obtain rfl := Option.some.inj H
  go_enter Tryz.func27, Tryz.ntmps27
  go_wp2_with (first | ((with_reducible refine gate_dst (N := 1) rfl ?_); refine bx_ (N := 1) (cs := #[.slice A0_0 l0_0.length c0_0, .int .i64 a0_1]) (t := 25) ?_; intro gb264 hg w11 hbox hb; have BK264 := M_ (hbox); have GW264 := M_ (gw_ HB hg); have GE264 := M_ (gw_ HB hg); replace HB := M_ (bS_ HB hb); clear hb hbox hg; obtain ⟨hcz12_0, hcz12_1, hfz12_0, hfz12_1⟩ := bq2_ BK264) | ((with_reducible refine gc_ 42 ?_); refine gM_ (some 6) Tryz.func42 #[.int .i64 (l0_0.length : Int), .int .i64 1, .int .i64 20] ?_; (with_reducible refine (spec_l1In.calls (l0_0.length : Int) 1 20 false _ A2.out).mono ?_); rintro e w' ⟨rfl, ⟨nd, rfl⟩⟩; refine ⟨_, rfl, ?_⟩))
  go_ret
  exact ⟨eR_, bU_ HB⟩

def spec_l1Num.f : Nat → Int → Option (ByteArray)
 | 0, _ => none
 | k + 1, a0 => if a0 < 10 then (some (strOfNums (([(wrap64 (48 + a0)) % 256] : List Int)))) else ((spec_l1Num.f k (wrap64 (Int.tdiv a0 10))).bind fun t271 => ((some (([(wrap64 (48 + (Int.tmod a0 10))) % 256] : List Int) : List Int)).bind fun y272 => (if t271.size + (strOfNums y272).size ≤ 9223372036854775807 then (some (t271 ++ (strOfNums y272))) else (none))))
theorem spec_l1Num.mono_l : ∀ k, (∀ y0, LeO (spec_l1Num.f k y0) (spec_l1Num.f (k + 1) y0))
 | 0 => fun _ r h => by simp [spec_l1Num.f] at h
 | k + 1 => by
  have ih0 := spec_l1Num.mono_l k
  ·intro y0
   unfold spec_l1Num.f
   exact mo_
theorem spec_l1Num.mono : ∀ a0 k, LeO (spec_l1Num.f k a0) (spec_l1Num.f (k + 1) a0) := by
 intro a0 k;have ih0 := spec_l1Num.mono_l k;exact ih0 a0
def spec_l1Num.T3 : Bool × List (List Nat × List Nat) := (true, [([], []), ([0], [0]), ([1], [1]), ([], []), ([3], [3]), ([4], [4]), ([5], [5]), ([6], [6]), ([7], [7]), ([2, 8], [2, 8]), ([9, 2, 0, 1, 2, 3, 4, 5, 6, 7, 8, 9], [9])])
def spec_l1Num.B3 : List Nat := [0, 1, 3, 0, 8, 24, 56, 120, 248, 511, 1023]
theorem spec_l1Num.tab3 : rtab .any (opsOf Tryz.f57 3) = spec_l1Num.T3 := by kernel_rfl
theorem spec_l1Num.bits3 : waitsOk spec_l1Num.T3.2 spec_l1Num.B3 = true := by kernel_rfl
set_option maxHeartbeats 8000000 in
set_option maxRecDepth 100000 in
theorem spec_l1Num.calls (k : Nat) : ∀ (a0 : Int) (r : ByteArray) (w : World) (h : spec_l1Num.f k a0 = some r),
  Calls Tryz.prog 57 #[.int .i64 a0] w fun e w' => e = .returned (.string r) ∧ Below w.heap.size w w' := by
 induction k using Nat.strongRecOn with
 | _ k ih =>
 intro a0 r w h
 cases k with
 | zero => exact absurd h (by simp [spec_l1Num.f])
 | succ k =>
 simp only [spec_l1Num.f] at h;have HB := M_ (Below.refl w.heap.size w)
 have H : (if a0 < 10 then (some (strOfNums (([(wrap64 (48 + a0)) % 256] : List Int)))) else ((spec_l1Num.f k (wrap64 (Int.tdiv a0 10))).bind fun t271 => ((some (([(wrap64 (48 + (Int.tmod a0 10))) % 256] : List Int) : List Int)).bind fun y272 => (if t271.size + (strOfNums y272).size ≤ 9223372036854775807 then (some (t271 ++ (strOfNums y272))) else (none))))) = some r := h
 clear h
 by_cases c2 : a0 < 10
 ·rw [if_pos c2] at H
  have c2b0 : decide (a0 < 10) = true := decide_eq_true c2
  clear c2;obtain ⟨y268, hy268⟩ : ∃ y_ : List Int, y_ = (([(wrap64 (48 + a0)) % 256] : List Int)) := ⟨_, rfl⟩
  replace H : (some (strOfNums y268)) = some r := by first | (rw [hy268]; with_reducible exact H) | (have H2_ := (Option.bind_some _ _).symm.trans H; rw [hy268]; with_reducible exact H2_) | (have H2_ := (Option.bind_some _ _).symm.trans H; with_reducible exact H2_) | with_reducible exact H | (rw [hy268]; exact H) | exact H
  have Ny268 := M_ hy268;clear hy268;obtain rfl := Option.some.inj H
  go_enter Tryz.func57, Tryz.ntmps57
  go_wp2_with (first | ((with_reducible refine gate_dst (N := 8) rfl ?_); refine lt_ (Kd.int .u8) 5 (N := 8) (([(wrap64 (48 + a0)) % 256] : List Int)) [.int .u8 ((wrap64 (48 + a0)) % 256)] ri_ ?_; intro v269 w3 ho4 hb hg_ hnew_; clear hg_ hnew_; replace ho4 := rN_ Ny268 ho4; have HO270 := M_ (Kd.R_lower ho4 (bZ_ HB)); replace HB := M_ (bS_ HB hb); clear hb ho4; have hcv5 := own_string (P := Tryz.prog) Tryz.underlying22 Tryz.underlying5 Tryz.underlying9 (Kd.own_of_R HO270.out)))
  go_ret
  exact ⟨eR_, bU_ HB⟩
 ·rw [if_neg c2] at H
  have c2b0 : decide (a0 < 10) = false := decide_eq_false c2
  clear c2;replace H := Option.bind_eq_some_iff.mp H;obtain ⟨t271, A60, H⟩ := H;(try dsimp only at H);have A6 := M_ A60;clear A60;obtain ⟨y272, hy272, H⟩ := ob_ H;(try dsimp only at H);have Ny272 := M_ hy272;clear hy272
  by_cases c7 : t271.size + (strOfNums y272).size ≤ 9223372036854775807
  ·rw [if_pos c7] at H
   have c7b0 := eq_true c7
   have c7b1 : decide (t271.size + (strOfNums y272).size ≤ 9223372036854775807) = true := decide_eq_true c7
   try have c7b2 : (9223372036854775807 < t271.size + (strOfNums y272).size) = False := eq_false (Nat.not_lt.2 c7)
   obtain rfl := Option.some.inj H
   go_enter Tryz.func57, Tryz.ntmps57
   try go_wp2
   replace HB := M_ (b1_ HB.out);refine start_ (n := 11) (S := fun w' => True) (ds := []) #[F,F,F,F,F,F,F,F,F,F,F] (by kernel_rfl) rfl rfl trivial (fun hHeld => ?_); refine with_tabW spec_l1Num.tab3 spec_l1Num.bits3 (fun HT_ HW_ => ?_);generalize w.drew = w8 at HB hHeld ⊢;refine pR_ (i := 0) (N := some 10) #[T,F,F,F,F,F,F,F,F,F,F] ?_;refine pR_ (i := 1) (N := some 11) #[T,T,F,F,F,F,F,F,F,F,F] ?_;refine pR_ (i := 3) (N := some 13) #[T,T,F,T,F,F,F,F,F,F,F] ?_;refine pR_ (i := 4) (N := some 14) #[T,T,F,T,T,F,F,F,F,F,F] ?_;refine pR_ (i := 5) (N := some 15) #[T,T,F,T,T,T,F,F,F,F,F] ?_;refine pR_ (i := 6) (N := some 16) #[T,T,F,T,T,T,T,F,F,F,F] ?_;refine join_ (σ := Value) 2 #[T,T,T,T,T,T,T,T,T,F,F] (fun s_ => [(12, .string t271), (17, s_), (18, .string (strOfNums y272))]) (fun s_ w' => (Kd.R (Kd.int .u8) 5 w' w.heap.size (fun _ => True) s_ y272) ∧ (Below w.heap.size w w')) ?_ ?_;rotate_left
   ·intro hCont
    refine two_ (i := 2) (j := 7) (Ni := some 12) (Nj := some 17) #[T,T,T,T,T,T,T,F,F,F,F] #[T,T,F,T,T,T,T,T,F,F,F] rfl rfl rfl rfl (two_of HT_.out (by kernel_rfl)) (by decide) (by decide) (fun K hK => ?_) (fun K hK => ?_)
    ·skip
     refine gS_ Tryz.func57 #[.int .i64 (wrap64 (Int.tdiv a0 10))] ?_
     with_reducible refine (ih k (by omega) (wrap64 (Int.tdiv a0 10)) t271 _ A6.out).mono ?_
     rintro e w9 ⟨rfl, hb⟩;refine ⟨_, rfl, ?_⟩;replace HB := M_ (bS_ HB hb);clear hb;refine hK.out _ _ trivial (fun hHeld => ?_);clear hK K;refine nM_ (some 12) ?_;refine one_ (i := 7) (N := some 17) #[T,T,T,T,T,T,T,T,F,F,F] rfl rfl (one_of HT_.out (by kernel_rfl)) (by decide) (fun K hK => ?_);refine ls_ (Kd.int .u8) 5 (N := 17) (([(wrap64 (48 + (Int.tmod a0 10))) % 256] : List Int)) [.int .u8 ((wrap64 (48 + (Int.tmod a0 10))) % 256)] ri_ ?_;intro v273 w10 ho11 hb hg_ hnew_;clear hg_ hnew_;replace ho11 := rN_ Ny272 ho11;have HO274 := M_ (Kd.R_lower ho11 (bZ_ HB)); replace HB := M_ (bS_ HB hb);clear hb ho11;refine hK.out _ _ trivial (fun hHeld => ?_);clear hK K;refine nM_ (some 17) ?_;refine one_ (i := 8) (N := some 18) #[T,T,T,T,T,T,T,T,T,F,F] rfl rfl (one_of HT_.out (by kernel_rfl)) (by decide) (fun K hK => ?_);have hcv12 := own_string (P := Tryz.prog) Tryz.underlying22 Tryz.underlying5 Tryz.underlying9 (Kd.own_of_R HO274.out);refine value_ (w1 := ?_) (v := ?_) (by rfl) rfl ?_ ?_
     rotate_left 2
     ·go_simp
      constructor
      ·rfl
      ·rfl
     clear hcv12;refine hK.out _ _ trivial (fun hHeld => ?_);clear hK K;refine nM_ (some 18) ?_;exact norm_ (by simp only [putAll, Act.put, la_, lb_, lc_]) (hCont (v273) _ ⟨(rU_ HO274.out), (bU_ HB)⟩)
    ·skip
     refine ls_ (Kd.int .u8) 5 (N := 17) (([(wrap64 (48 + (Int.tmod a0 10))) % 256] : List Int)) [.int .u8 ((wrap64 (48 + (Int.tmod a0 10))) % 256)] ri_ ?_;intro v273 w9 ho10 hb hg_ hnew_;clear hg_ hnew_;replace ho10 := rN_ Ny272 ho10;have HO274 := M_ (Kd.R_lower ho10 (bZ_ HB)); replace HB := M_ (bS_ HB hb);clear hb ho10;refine hK.out _ _ trivial (fun hHeld => ?_);clear hK K;refine nM_ (some 17) ?_;refine two_ (i := 2) (j := 8) (Ni := some 12) (Nj := some 18) #[T,T,T,T,T,T,T,T,F,F,F] #[T,T,F,T,T,T,T,T,T,F,F] rfl rfl rfl rfl (two_of HT_.out (by kernel_rfl)) (by decide) (by decide) (fun K hK => ?_) (fun K hK => ?_)
     ·skip
      refine gS_ Tryz.func57 #[.int .i64 (wrap64 (Int.tdiv a0 10))] ?_
      with_reducible refine (ih k (by omega) (wrap64 (Int.tdiv a0 10)) t271 _ A6.out).mono ?_
      rintro e w11 ⟨rfl, hb⟩;refine ⟨_, rfl, ?_⟩;replace HO274 := M_ (rB_ HO274 hb); replace HB := M_ (bS_ HB hb);clear hb;refine hK.out _ _ trivial (fun hHeld => ?_);clear hK K;refine nM_ (some 12) ?_;refine one_ (i := 8) (N := some 18) #[T,T,T,T,T,T,T,T,T,F,F] rfl rfl (one_of HT_.out (by kernel_rfl)) (by decide) (fun K hK => ?_);have hcv12 := own_string (P := Tryz.prog) Tryz.underlying22 Tryz.underlying5 Tryz.underlying9 (Kd.own_of_R HO274.out);refine value_ (w1 := ?_) (v := ?_) (by rfl) rfl ?_ ?_
      rotate_left 2
      ·go_simp
       constructor
       ·rfl
       ·rfl
      clear hcv12;refine hK.out _ _ trivial (fun hHeld => ?_);clear hK K;refine nM_ (some 18) ?_;exact norm_ (by simp only [putAll, Act.put, la_, lb_, lc_]) (hCont (v273) _ ⟨(rU_ HO274.out), (bU_ HB)⟩)
     ·skip
      have hcv11 := own_string (P := Tryz.prog) Tryz.underlying22 Tryz.underlying5 Tryz.underlying9 (Kd.own_of_R HO274.out);refine value_ (w1 := ?_) (v := ?_) (by rfl) rfl ?_ ?_
      rotate_left 2
      ·go_simp
       constructor
       ·rfl
       ·rfl
      clear hcv11;refine hK.out _ _ trivial (fun hHeld => ?_);clear hK K;refine nM_ (some 18) ?_;refine one_ (i := 2) (N := some 12) #[T,T,T,T,T,T,T,T,T,F,F] rfl rfl (one_of HT_.out (by kernel_rfl)) (by decide) (fun K hK => ?_);refine gS_ Tryz.func57 #[.int .i64 (wrap64 (Int.tdiv a0 10))] ?_
      with_reducible refine (ih k (by omega) (wrap64 (Int.tdiv a0 10)) t271 _ A6.out).mono ?_
      rintro e w12 ⟨rfl, hb⟩;refine ⟨_, rfl, ?_⟩;replace HO274 := M_ (rB_ HO274 hb); replace HB := M_ (bS_ HB hb);clear hb;refine hK.out _ _ trivial (fun hHeld => ?_);clear hK K;refine nM_ (some 12) ?_;exact norm_ (by simp only [putAll, Act.put, la_, lb_, lc_]) (hCont (v273) _ ⟨(rU_ HO274.out), (bU_ HB)⟩)
   rintro v273 w13 ⟨h0_, h1_⟩
   have n0_ : Aside0 (Kd.R (Kd.int .u8) 5 w13 w.heap.size (fun _ => True) v273 y272) := ⟨h0_⟩
   have n1_ : Aside0 (Below w.heap.size w w13) := ⟨h1_⟩
   clear HB;clear h0_ h1_;have HO274 := n0_;have HB := n1_;clear n0_ n1_;have hHeld := trivial;refine norm_ (a' := ?_) ?_ ?_;rotate_left
   ·simp only [putAll, Act.put, la_, lb_, lc_]
    rfl
   refine pR_ (i := 9) (N := some 19) #[T,T,T,T,T,T,T,T,T,T,F] ?_;refine pR_ (i := 10) (N := some 2) #[T,T,T,T,T,T,T,T,T,T,T] ?_;refine done_ (done_of HT_.out (by kernel_rfl)) ?_
   try go_wp2
   go_ret
   exact ⟨eR_, bU_ HB⟩
  ·rw [if_neg c7] at H
   exact absurd H (by simp)

def spec_ntNames.f  : Option (List ByteArray) := some (([(⟨#[99]⟩ : ByteArray), (⟨#[99, 35]⟩ : ByteArray), (⟨#[100]⟩ : ByteArray), (⟨#[100, 35]⟩ : ByteArray), (⟨#[101]⟩ : ByteArray), (⟨#[102]⟩ : ByteArray), (⟨#[102, 35]⟩ : ByteArray), (⟨#[103]⟩ : ByteArray), (⟨#[103, 35]⟩ : ByteArray), (⟨#[97]⟩ : ByteArray), (⟨#[97, 35]⟩ : ByteArray), (⟨#[98]⟩ : ByteArray)] : List ByteArray))
set_option maxHeartbeats 8000000 in
set_option maxRecDepth 100000 in
theorem spec_ntNames.calls  (r : List ByteArray) (w : World) (h : spec_ntNames.f  = some r) :
  Calls Tryz.prog 70 #[] w fun e w' => ∃ v0_ : Value, e = .returned (v0_) ∧ Kd.R Kd.string 9 w' w.heap.size (fun _ => True) v0_ r ∧ Below w.heap.size w w' := by
 have HB := M_ (Below.refl w.heap.size w)
 have H : (some (([(⟨#[99]⟩ : ByteArray), (⟨#[99, 35]⟩ : ByteArray), (⟨#[100]⟩ : ByteArray), (⟨#[100, 35]⟩ : ByteArray), (⟨#[101]⟩ : ByteArray), (⟨#[102]⟩ : ByteArray), (⟨#[102, 35]⟩ : ByteArray), (⟨#[103]⟩ : ByteArray), (⟨#[103, 35]⟩ : ByteArray), (⟨#[97]⟩ : ByteArray), (⟨#[97, 35]⟩ : ByteArray), (⟨#[98]⟩ : ByteArray)] : List ByteArray))) = some r := h
 clear h;obtain ⟨y275, hy275⟩ : ∃ y_ : List ByteArray, y_ = (([(⟨#[99]⟩ : ByteArray), (⟨#[99, 35]⟩ : ByteArray), (⟨#[100]⟩ : ByteArray), (⟨#[100, 35]⟩ : ByteArray), (⟨#[101]⟩ : ByteArray), (⟨#[102]⟩ : ByteArray), (⟨#[102, 35]⟩ : ByteArray), (⟨#[103]⟩ : ByteArray), (⟨#[103, 35]⟩ : ByteArray), (⟨#[97]⟩ : ByteArray), (⟨#[97, 35]⟩ : ByteArray), (⟨#[98]⟩ : ByteArray)] : List ByteArray)) := ⟨_, rfl⟩
 replace H : (some y275) = some r := by first | (rw [hy275]; with_reducible exact H) | (have H2_ := (Option.bind_some _ _).symm.trans H; rw [hy275]; with_reducible exact H2_) | (have H2_ := (Option.bind_some _ _).symm.trans H; with_reducible exact H2_) | with_reducible exact H | (rw [hy275]; exact H) | exact H
 have Ny275 := M_ hy275;clear hy275;obtain rfl := Option.some.inj H
 go_enter Tryz.func70, Tryz.ntmps70
 go_wp2_with (first | ((with_reducible refine gate_dst (N := 1) rfl ?_); refine Kd.R_lit Kd.string _ 9 ?hg (N := 1) ?hd (xs := ([(⟨#[99]⟩ : ByteArray), (⟨#[99, 35]⟩ : ByteArray), (⟨#[100]⟩ : ByteArray), (⟨#[100, 35]⟩ : ByteArray), (⟨#[101]⟩ : ByteArray), (⟨#[102]⟩ : ByteArray), (⟨#[102, 35]⟩ : ByteArray), (⟨#[103]⟩ : ByteArray), (⟨#[103, 35]⟩ : ByteArray), (⟨#[97]⟩ : ByteArray), (⟨#[97, 35]⟩ : ByteArray), (⟨#[98]⟩ : ByteArray)] : List ByteArray)) (inner := [.string (⟨#[99]⟩ : ByteArray), .string (⟨#[99, 35]⟩ : ByteArray), .string (⟨#[100]⟩ : ByteArray), .string (⟨#[100, 35]⟩ : ByteArray), .string (⟨#[101]⟩ : ByteArray), .string (⟨#[102]⟩ : ByteArray), .string (⟨#[102, 35]⟩ : ByteArray), .string (⟨#[103]⟩ : ByteArray), .string (⟨#[103, 35]⟩ : ByteArray), .string (⟨#[97]⟩ : ByteArray), .string (⟨#[97, 35]⟩ : ByteArray), .string (⟨#[98]⟩ : ByteArray)]) (ok := fun _ => True) (okp := fun _ => True) ?hr ?hp (fun _ hk => hk) trivial (Below.refl _ _) (Nat.le_refl _) (by simp) ?_; (case hd => rfl); (case hg => rfl); (case hr => first | (go_simp; done) | (go_simp; rfl)); (case hp => exact (Reps.one (show Kd.M Kd.string _ _ _ (⟨#[99]⟩ : ByteArray) [.string (⟨#[99]⟩ : ByteArray)] from rfl) (Reps.one (show Kd.M Kd.string _ _ _ (⟨#[99, 35]⟩ : ByteArray) [.string (⟨#[99, 35]⟩ : ByteArray)] from rfl) (Reps.one (show Kd.M Kd.string _ _ _ (⟨#[100]⟩ : ByteArray) [.string (⟨#[100]⟩ : ByteArray)] from rfl) (Reps.one (show Kd.M Kd.string _ _ _ (⟨#[100, 35]⟩ : ByteArray) [.string (⟨#[100, 35]⟩ : ByteArray)] from rfl) (Reps.one (show Kd.M Kd.string _ _ _ (⟨#[101]⟩ : ByteArray) [.string (⟨#[101]⟩ : ByteArray)] from rfl) (Reps.one (show Kd.M Kd.string _ _ _ (⟨#[102]⟩ : ByteArray) [.string (⟨#[102]⟩ : ByteArray)] from rfl) (Reps.one (show Kd.M Kd.string _ _ _ (⟨#[102, 35]⟩ : ByteArray) [.string (⟨#[102, 35]⟩ : ByteArray)] from rfl) (Reps.one (show Kd.M Kd.string _ _ _ (⟨#[103]⟩ : ByteArray) [.string (⟨#[103]⟩ : ByteArray)] from rfl) (Reps.one (show Kd.M Kd.string _ _ _ (⟨#[103, 35]⟩ : ByteArray) [.string (⟨#[103, 35]⟩ : ByteArray)] from rfl) (Reps.one (show Kd.M Kd.string _ _ _ (⟨#[97]⟩ : ByteArray) [.string (⟨#[97]⟩ : ByteArray)] from rfl) (Reps.one (show Kd.M Kd.string _ _ _ (⟨#[97, 35]⟩ : ByteArray) [.string (⟨#[97, 35]⟩ : ByteArray)] from rfl) (Reps.one (show Kd.M Kd.string _ _ _ (⟨#[98]⟩ : ByteArray) [.string (⟨#[98]⟩ : ByteArray)] from rfl) (Reps.none _ _)))))))))))))); intro v276 w1 ho2 hb hg_ hnew_; clear hg_ hnew_; (first | rw [← Ny275.out] at ho2 | (simp only [Int.reduceToNat] at ho2; rw [← Ny275.out] at ho2)); have HO277 := M_ (Kd.R_lower ho2 (bZ_ HB)); replace HB := M_ (bS_ HB hb); clear hb ho2))
 go_ret
 exact ⟨_, eR_, rU_ HO277.out, bU_ HB⟩

theorem wpAnyLast_weak {P : Program} {ops : Array Oper} {Q : Exit → Act → World → Prop} {md : Region.Mode} {S' : World → Prop} {ds : List Nat} : ∀ (fuel : Nat) (listed : Array Bool) (a : Act) (w : World), wpAnyLast P md ops Q S' ds fuel listed a w → wpAnyLast P md ops Q (fun _ => True) ds fuel listed a w
 | 0, _, _, _, h => h
 | fuel + 1, _, _, _, h => ⟨h.1, fun i hi => wpOp_mono (fun a' w' h' => ⟨fun _ _ => trivial, wpAnyLast_weak fuel _ a' w' h'.2⟩) (h.2 i hi)⟩
def spec_ntName.f (k : Nat) (a0 : Int) : Option (ByteArray) := (spec_ntNames.f).bind fun t278 => (if 0 ≤ (Int.tmod a0 12) then (if (Int.tmod a0 12) < (t278.length : Int) then ((spec_l1Num.f k (wrap64 (Int.tdiv a0 12))).bind fun t282 => (if (rdOf ByteArray.empty t278 (Int.tmod a0 12)).size + t282.size ≤ 9223372036854775807 then (some ((rdOf ByteArray.empty t278 (Int.tmod a0 12)) ++ t282)) else (none))) else (none)) else (none))
theorem spec_ntName.mono : ∀ a0 k, LeO (spec_ntName.f k a0) (spec_ntName.f (k + 1) a0) := by
 intro a0 k
 unfold spec_ntName.f
 have m0_ := @spec_l1Num.mono;exact mo_
def spec_ntName.T1 : Bool × List (List Nat × List Nat) := (true, [([], []), ([], []), ([1], [1]), ([0, 2], [0, 2]), ([3], [3]), ([], []), ([5], [5]), ([6, 0], [6]), ([4, 7], [4, 7]), ([8, 7, 0, 1, 2, 3, 4, 5, 6, 7, 8], [8])])
def spec_ntName.B1 : List Nat := [0, 0, 2, 7, 15, 0, 32, 97, 255, 511]
theorem spec_ntName.tab1 : rtab .any (opsOf Tryz.f56 1) = spec_ntName.T1 := by kernel_rfl
theorem spec_ntName.bits1 : waitsOk spec_ntName.T1.2 spec_ntName.B1 = true := by kernel_rfl
set_option maxHeartbeats 8000000 in
set_option maxRecDepth 100000 in
theorem spec_ntName.calls (k : Nat) (a0 : Int) (r : ByteArray) (w : World) (h : spec_ntName.f k a0 = some r) :
  Calls Tryz.prog 56 #[.int .i64 a0] w fun e w' => e = .returned (.string r) ∧ Below w.heap.size w w' := by
 have HB := M_ (Below.refl w.heap.size w)
 have H : ((spec_ntNames.f).bind fun t278 => (if 0 ≤ (Int.tmod a0 12) then (if (Int.tmod a0 12) < (t278.length : Int) then ((spec_l1Num.f k (wrap64 (Int.tdiv a0 12))).bind fun t282 => (if (rdOf ByteArray.empty t278 (Int.tmod a0 12)).size + t282.size ≤ 9223372036854775807 then (some ((rdOf ByteArray.empty t278 (Int.tmod a0 12)) ++ t282)) else (none))) else (none)) else (none))) = some r := h
 clear h;replace H := Option.bind_eq_some_iff.mp H;obtain ⟨t278, A20, H⟩ := H;(try dsimp only at H);have A2 := M_ A20;clear A20;obtain ⟨ji3, hji3⟩ : ∃ j_ : Int, (Int.tmod a0 12) = j_ := ⟨_, rfl⟩
 replace H : (if 0 ≤ (ji3) then (if (ji3) < (t278.length : Int) then ((spec_l1Num.f k (wrap64 (Int.tdiv a0 12))).bind fun t282 => (if (rdOf ByteArray.empty t278 (ji3)).size + t282.size ≤ 9223372036854775807 then (some ((rdOf ByteArray.empty t278 (ji3)) ++ t282)) else (none))) else (none)) else (none)) = some r := by first | (rw [hji3] at H; exact H) | (simp only [hji3] at H ⊢; exact H)
 (try rw [hji3] at A2)
 by_cases c4 : 0 ≤ (ji3)
 ·rw [if_pos c4] at H
  have c4b0 : decide (0 ≤ (ji3)) = true := decide_eq_true c4
  clear c4
  by_cases c5 : (ji3) < (t278.length : Int)
  ·rw [if_pos c5] at H
   have c5b0 : decide ((ji3) < (t278.length : Int)) = true := decide_eq_true c5
   clear c5;replace H := Option.bind_eq_some_iff.mp H;obtain ⟨t282, A60, H⟩ := H;(try dsimp only at H);have A6 := M_ A60;clear A60
   by_cases c7 : (rdOf ByteArray.empty t278 (ji3)).size + t282.size ≤ 9223372036854775807
   ·rw [if_pos c7] at H
    have c7b0 := eq_true c7
    have c7b1 : decide ((rdOf ByteArray.empty t278 (ji3)).size + t282.size ≤ 9223372036854775807) = true := decide_eq_true c7
    try have c7b2 : (9223372036854775807 < (rdOf ByteArray.empty t278 (ji3)).size + t282.size) = False := eq_false (Nat.not_lt.2 c7)
    obtain rfl := Option.some.inj H
    go_enter Tryz.func56, Tryz.ntmps56
    try go_wp2
    replace HB := M_ (b1_ HB.out);refine start_ (n := 10) (S := fun _ => True) (ds := []) #[F,F,F,F,F,F,F,F,F,F] (by kernel_rfl) rfl rfl trivial (fun hHeld => ?_); refine with_tabW spec_ntName.tab1 spec_ntName.bits1 (fun HT_ HW_ => ?_);generalize w.drew = w8 at HB hHeld ⊢;refine pR_ (i := 1) (N := some 4) #[F,T,F,F,F,F,F,F,F,F] ?_;refine pR_ (i := 2) (N := some 5) #[F,T,T,F,F,F,F,F,F,F] ?_;refine pR_ (i := 5) (N := some 8) #[F,T,T,F,F,T,F,F,F,F] ?_;refine pR_ (i := 6) (N := some 9) #[F,T,T,F,F,T,T,F,F,F] ?_;refine one_ (i := 0) (N := some 3) #[T,T,T,F,F,T,T,F,F,F] rfl rfl (one_of HT_.out (by kernel_rfl)) (by decide) (fun K hK => ?_);refine gS_ Tryz.func70 #[] ?_
    with_reducible refine (spec_ntNames.calls  t278 _ A2.out).mono ?_
    rintro e w9 ⟨v279, rfl, ho0, hb⟩;have HS0_ := trivial;refine ⟨_, rfl, ?_⟩;have HO280 := M_ (Kd.R_lower ho0 (bZ_ HB)); replace HB := M_ (bS_ HB hb);clear hb ho0;obtain ⟨Ao10, co10, eo10⟩ := Kd.R_slice HO280.out
    (first | subst eo10 | (injection eo10 with f1_ f2_ f3_; have f4_ := f1_.symm; have f5_ := f3_.symm; clear f1_ f2_ f3_; subst f4_; subst f5_))
    have p281 : 0 ≤ ((ji3) : Int) := dT_
    have q281 : (ji3) < (t278.length : Int) := dT_
    obtain ⟨ad281, e281, hx281_0⟩ := Kd.at_string (Kd.R_reads' HO280.out).2.2 (ji3) p281 q281;cases e281;replace p281 := eq_true p281;replace q281 := eq_true q281;refine hK.out _ _ (HS0_) (fun hHeld => ?_);clear hK K;refine wpAnyLast_weak (S' := fun w' => w'.cell? (ad281.add ((ji3)).toNat) = some (.string (rdOf ByteArray.empty t278 (ji3)))) _ _ _ _ ?_;replace hHeld := hx281_0;refine nM_ (some 3) ?_;refine pR_ (i := 3) (N := some 6) #[T,T,T,T,F,T,T,F,F,F] ?_;refine take_ (i := 4) (N := some 7) (v := ?_) (a' := ?_) #[T,T,T,T,T,T,T,F,F,F] rfl rfl (take_ofW HT_.out HW_.out (by kernel_rfl)) (fun _ _ _ h => h) (Or.inl ⟨by rfl, ?_⟩) hHeld ?_ ?_;rotate_left
    ·intro w' s0
     go_simp;with_reducible rfl
    rotate_left
    ·simp only [Act.put, la_, lb_, lc_, i64_w, i32_w]
     rfl
    refine one_ (i := 7) (N := some 10) #[T,T,T,T,T,T,T,T,F,F] rfl rfl (one_of HT_.out (by kernel_rfl)) (by decide) (fun K hK => ?_);refine gS_ Tryz.func57 #[.int .i64 (wrap64 (Int.tdiv a0 12))] ?_
    with_reducible refine (spec_l1Num.calls k (wrap64 (Int.tdiv a0 12)) t282 _ A6.out).mono ?_
    rintro e w11 ⟨rfl, hb⟩;have HS0_ := (hb.cell (World.block_lt_of_cell? _ _ (hHeld))).trans (hHeld);refine ⟨_, rfl, ?_⟩;replace HO280 := M_ (rB_ HO280 hb); replace HB := M_ (bS_ HB hb);clear hb;refine hK.out _ _ (HS0_) (fun hHeld => ?_);clear hK K;refine nM_ (some 10) ?_;refine pR_ (i := 8) (N := some 11) #[T,T,T,T,T,T,T,T,T,F] ?_;refine pR_ (i := 9) (N := some 2) #[T,T,T,T,T,T,T,T,T,T] ?_;refine done_ (done_of HT_.out (by kernel_rfl)) ?_
    try go_wp2
    go_ret
    exact ⟨by first | rfl | (simp [errW_none, errW_some] <;> rfl) | (simp only [← hji3]; first | rfl | (simp [errW_none, errW_some] <;> rfl)) | (simp [*, errW_none, errW_some] <;> rfl), bU_ HB⟩
   ·rw [if_neg c7] at H
    exact absurd H (by simp)
  ·rw [if_neg c5] at H
   exact absurd H (by simp)
 ·rw [if_neg c4] at H
  exact absurd H (by simp)

def spec_inText.l0 : Nat → ByteArray → List Int → Int → Int → List Int → Int → Option (ByteArray)
 | 0, _, _, _, _, _, _ => none
 | k + 1, x3, x7, x8, x9, x284000, x284001 => if x9 < x8 then (if 0 ≤ x9 then (if x9 < (x7.length : Int) then ((spec_ntName.f k (rd x7 x9)).bind fun t285 => (if t285.size + 1 ≤ 9223372036854775807 then (if x3.size + (t285 ++ (⟨#[32]⟩ : ByteArray)).size ≤ 9223372036854775807 then (spec_inText.l0 k (x3 ++ (t285 ++ (⟨#[32]⟩ : ByteArray))) x7 x8 (wrap64 (x9 + 1)) x284000 x284001) else (none)) else (none))) else (none)) else (none)) else ((spec_l1Num.f k x284001).bind fun t286 => (if x3.size + t286.size ≤ 9223372036854775807 then (if (x3 ++ t286).size + 1 ≤ 9223372036854775807 then (some ((x3 ++ t286) ++ (⟨#[10]⟩ : ByteArray))) else (none)) else (none)))
def spec_inText.f (k : Nat) (l0_0 : List Int) (a0_1 : Int) : Option (ByteArray) := spec_inText.l0 k (⟨#[]⟩ : ByteArray) l0_0 (l0_0.length : Int) 0 l0_0 a0_1
theorem spec_inText.mono_l : ∀ k, (∀ y0 y1 y2 y3 y4 y5, LeO (spec_inText.l0 k y0 y1 y2 y3 y4 y5) (spec_inText.l0 (k + 1) y0 y1 y2 y3 y4 y5))
 | 0 => fun _ _ _ _ _ _ r h => by simp [spec_inText.l0] at h
 | k + 1 => by
  have ih0 := spec_inText.mono_l k
  ·intro y0 y1 y2 y3 y4 y5
   unfold spec_inText.l0
   have m0_ := @spec_l1Num.mono;have m1_ := @spec_ntName.mono;exact mo_
theorem spec_inText.mono : ∀ a0 a1 k, LeO (spec_inText.f k a0 a1) (spec_inText.f (k + 1) a0 a1) := by
 intro a0 a1 k;have ih0 := spec_inText.mono_l k
 unfold spec_inText.f
 have m0_ := @spec_l1Num.mono;have m1_ := @spec_ntName.mono;exact mo_
set_option maxHeartbeats 8000000 in
set_option maxRecDepth 100000 in
theorem spec_inText.calls (k : Nat) (A0_0 : Option Addr) (c0_0 : Nat) (l0_0 : List Int) (a0_1 : Int) (r : ByteArray) (w : World) (hr0_0 : Kd.C (Kd.int .i64) w A0_0 l0_0.length l0_0) (hc0_0 : l0_0.length ≤ c0_0) (h : spec_inText.f k l0_0 a0_1 = some r) :
  Calls Tryz.prog 28 #[.agg #[.slice A0_0 l0_0.length c0_0, .int .i64 a0_1]] w fun e w' => e = .returned (.string r) ∧ Below w.heap.size w w' := by
 have hu25 := Tryz.underlying25;have HR0_0 := M_ hr0_0;have HC0_0 := M_ hc0_0;clear hr0_0 hc0_0;have HB := M_ (Below.refl w.heap.size w)
 have H : (spec_inText.l0 k (⟨#[]⟩ : ByteArray) l0_0 (l0_0.length : Int) 0 l0_0 a0_1) = some r := h
 clear h
 have H' := M_ H
 clear H
 go_enter Tryz.func28, Tryz.ntmps28
 go_wp2_with (first | ((with_reducible refine gate_dst (N := 1) rfl ?_); refine bx_ (N := 1) (cs := #[.slice A0_0 l0_0.length c0_0, .int .i64 a0_1]) (t := 25) ?_; intro gb283 hg w2 hbox hb; have BK283 := M_ (hbox); have GW283 := M_ (gw_ HB hg); have GE283 := M_ (gw_ HB hg); replace HB := M_ (bS_ HB hb); clear hb hbox hg; obtain ⟨hcz3_0, hcz3_1, hfz3_0, hfz3_1⟩ := bq2_ BK283))
 go_loopg [3, 9] k (fun kq v3 v9 w' => ∃ (x3_1 : ByteArray) (x9_1 : Int), v3 = .string x3_1 ∧ v9 = .int .i64 x9_1 ∧ Aside0 (spec_inText.l0 kq x3_1 l0_0 (l0_0.length : Int) x9_1 l0_0 a0_1 = some r) ∧ Aside0 (kq ≤ k) ∧ Aside0 (w'.heap[gb283]? = some (.cells #[(.slice A0_0 l0_0.length c0_0), .int .i64 a0_1] 25 (0, 0))) ∧ Aside0 (Below w.heap.size w w'))
 case atStart => exact ⟨((⟨#[]⟩ : ByteArray)), (0), eD_, eD_, H', ⟨Nat.le_refl _⟩, ⟨kU_ BK283⟩, ⟨bU_ HB⟩⟩
 case round =>
  clear H';obtain ⟨x3_1, x9_1, rfl, rfl, HA, HK1, BK283, HB⟩ := hrel
  cases gk with
  | zero => exact absurd HA.out (by simp [spec_inText.l0])
  | succ k1 =>
   have H := HA.out;clear HA;simp only [spec_inText.l0] at H
   by_cases c4 : x9_1 < (l0_0.length : Int)
   ·rw [if_pos c4] at H
    have c4b0 : decide (x9_1 < (l0_0.length : Int)) = true := decide_eq_true c4
    clear c4
    by_cases c5 : 0 ≤ x9_1
    ·rw [if_pos c5] at H
     have c5b0 : decide (0 ≤ x9_1) = true := decide_eq_true c5
     clear c5
     by_cases c6 : x9_1 < (l0_0.length : Int)
     ·rw [if_pos c6] at H
      have c6b0 : decide (x9_1 < (l0_0.length : Int)) = true := decide_eq_true c6
      clear c6;replace H := Option.bind_eq_some_iff.mp H;obtain ⟨t285, A70, H⟩ := H;(try dsimp only at H);have A7 := M_ A70;clear A70
      by_cases c8 : t285.size + 1 ≤ 9223372036854775807
      ·rw [if_pos c8] at H
       have c8b0 := eq_true c8
       have c8b1 : decide (t285.size + 1 ≤ 9223372036854775807) = true := decide_eq_true c8
       try have c8b2 : (9223372036854775807 < t285.size + 1) = False := eq_false (Nat.not_lt.2 c8)
       by_cases c9 : x3_1.size + (t285 ++ (⟨#[32]⟩ : ByteArray)).size ≤ 9223372036854775807
       ·rw [if_pos c9] at H
        have c9b0 := eq_true c9
        have c9b1 : decide (x3_1.size + (t285 ++ (⟨#[32]⟩ : ByteArray)).size ≤ 9223372036854775807) = true := decide_eq_true c9
        try have c9b2 : (9223372036854775807 < x3_1.size + (t285 ++ (⟨#[32]⟩ : ByteArray)).size) = False := eq_false (Nat.not_lt.2 c9)
        have c9s := c9
        try simp only [ByteArray.size_append, show (⟨#[32]⟩ : ByteArray).size = 1 from rfl] at c9s
        have c9s0 := eq_true c9s;have c9s1 := decide_eq_true c9s
        try have c9s2 := eq_false (Nat.not_lt.2 c9s)
        have H' := M_ H
        clear H
        have p284 : 0 ≤ (x9_1 : Int) := dT_
        have q284 : x9_1 < (l0_0.length : Int) := dT_
        obtain ⟨ad284, e284, hx284_0⟩ := Kd.at_int HR0_0.out x9_1 p284 q284;cases e284;replace hx284_0 := (HB.out.cell (World.block_lt_of_cell? w _ hx284_0)).trans hx284_0;replace p284 := eq_true p284;replace q284 := eq_true q284
        go_wp2_with (first | ((with_reducible refine gc_ 56 ?_); refine gM_ (some 15) Tryz.func56 #[.int .i64 (rd l0_0 x9_1)] ?_; (with_reducible refine (spec_ntName.calls k1 (rd l0_0 x9_1) t285 _ A7.out).mono ?_); rintro e w10 ⟨rfl, hb⟩; refine ⟨_, rfl, ?_⟩; replace BK283 := M_ (kb_ BK283 hb); replace HB := M_ (bS_ HB hb); clear hb))
        go_roundg k1
        case measure => have := HK1.out; omega
        case rel => exact ⟨(x3_1 ++ (t285 ++ (⟨#[32]⟩ : ByteArray))), (wrap64 (x9_1 + 1)), eD_, eD_, H', ⟨by have := HK1.out; omega⟩, ⟨kU_ BK283⟩, ⟨bU_ HB⟩⟩
       ·rw [if_neg c9] at H
        exact absurd H (by simp)
      ·rw [if_neg c8] at H
       exact absurd H (by simp)
     ·rw [if_neg c6] at H
      exact absurd H (by simp)
    ·rw [if_neg c5] at H
     exact absurd H (by simp)
   ·rw [if_neg c4] at H
    have c4b0 : decide (x9_1 < (l0_0.length : Int)) = false := decide_eq_false c4
    clear c4;replace H := Option.bind_eq_some_iff.mp H;obtain ⟨t286, A110, H⟩ := H;(try dsimp only at H);have A11 := M_ A110;clear A110
    by_cases c12 : x3_1.size + t286.size ≤ 9223372036854775807
    ·rw [if_pos c12] at H
     have c12b0 := eq_true c12
     have c12b1 : decide (x3_1.size + t286.size ≤ 9223372036854775807) = true := decide_eq_true c12
     try have c12b2 : (9223372036854775807 < x3_1.size + t286.size) = False := eq_false (Nat.not_lt.2 c12)
     by_cases c13 : (x3_1 ++ t286).size + 1 ≤ 9223372036854775807
     ·rw [if_pos c13] at H
      have c13b0 := eq_true c13
      have c13b1 : decide ((x3_1 ++ t286).size + 1 ≤ 9223372036854775807) = true := decide_eq_true c13
      try have c13b2 : (9223372036854775807 < (x3_1 ++ t286).size + 1) = False := eq_false (Nat.not_lt.2 c13)
      have c13s := c13
      try simp only [ByteArray.size_append, ByteArray.size_append] at c13s
      have c13s0 := eq_true c13s;have c13s1 := decide_eq_true c13s
      try have c13s2 := eq_false (Nat.not_lt.2 c13s)
      obtain rfl := Option.some.inj H;obtain ⟨hcz14_0, hcz14_1, hfz14_0, hfz14_1⟩ := bq2_ BK283
      go_wp2_with (first | ((with_reducible refine gc_ 57 ?_); refine gM_ (some 22) Tryz.func57 #[.int .i64 a0_1] ?_; (with_reducible refine (spec_l1Num.calls k1 a0_1 t286 _ A11.out).mono ?_); rintro e w15 ⟨rfl, hb⟩; refine ⟨_, rfl, ?_⟩; replace BK283 := M_ (kb_ BK283 hb); replace HB := M_ (bS_ HB hb); clear hb))
      go_ret
      exact ⟨eR_, bU_ HB⟩
     ·rw [if_neg c13] at H
      exact absurd H (by simp)
    ·rw [if_neg c12] at H
     exact absurd H (by simp)

def spec_InstrumentText.f (k : Nat) (l0_0 : List Int) (a0_1 : Int) : Option (ByteArray × Bool) := (spec_inGood.f k l0_0 a0_1).bind fun t288 => (if t288 = true then ((spec_inText.f k l0_0 a0_1).bind fun t289 => (some (t289, true))) else (some ((⟨#[]⟩ : ByteArray), false)))
theorem spec_InstrumentText.mono : ∀ a0 a1 k, LeO (spec_InstrumentText.f k a0 a1) (spec_InstrumentText.f (k + 1) a0 a1) := by
 intro a0 a1 k
 unfold spec_InstrumentText.f
 have m0_ := @spec_inGood.mono;have m1_ := @spec_inText.mono;exact mo_
set_option maxHeartbeats 8000000 in
set_option maxRecDepth 100000 in
theorem spec_InstrumentText.calls (k : Nat) (A0_0 : Option Addr) (c0_0 : Nat) (l0_0 : List Int) (a0_1 : Int) (r1 : ByteArray) (r2 : Bool) (w : World) (hr0_0 : Kd.C (Kd.int .i64) w A0_0 l0_0.length l0_0) (hc0_0 : l0_0.length ≤ c0_0) (h : spec_InstrumentText.f k l0_0 a0_1 = some (r1, r2)) :
  Calls Tryz.prog 6 #[.agg #[.slice A0_0 l0_0.length c0_0, .int .i64 a0_1]] w fun e w' => e = .returned (.tuple #[.string r1, .bool r2]) ∧ Below w.heap.size w w' := by
 have hu25 := Tryz.underlying25;have HR0_0 := M_ hr0_0;have HC0_0 := M_ hc0_0;clear hr0_0 hc0_0;have HB := M_ (Below.refl w.heap.size w)
 have H : ((spec_inGood.f k l0_0 a0_1).bind fun t288 => (if t288 = true then ((spec_inText.f k l0_0 a0_1).bind fun t289 => (some (t289, true))) else (some ((⟨#[]⟩ : ByteArray), false)))) = some (r1, r2) := h
 clear h;replace H := Option.bind_eq_some_iff.mp H;obtain ⟨t288, A20, H⟩ := H;(try dsimp only at H);have A2 := M_ A20;clear A20
 by_cases c3 : t288 = true
 ·subst c3
  rw [if_pos rfl] at H
  replace H := Option.bind_eq_some_iff.mp H;obtain ⟨t289, A40, H⟩ := H;replace H : (some (t289, true)) = some (r1, r2) := H;have A4 := M_ A40;clear A40;simp only [Option.some.injEq, Prod.mk.injEq] at H;obtain ⟨rfl, rfl⟩ := H
  go_enter Tryz.func6, Tryz.ntmps6
  go_wp2_with (first | ((with_reducible refine gate_dst (N := 1) rfl ?_); refine bx_ (N := 1) (cs := #[.slice A0_0 l0_0.length c0_0, .int .i64 a0_1]) (t := 25) ?_; intro gb287 hg w5 hbox hb; have BK287 := M_ (hbox); have GW287 := M_ (gw_ HB hg); have GE287 := M_ (gw_ HB hg); replace HB := M_ (bS_ HB hb); clear hb hbox hg; obtain ⟨hcz6_0, hcz6_1, hfz6_0, hfz6_1⟩ := bq2_ BK287) | ((with_reducible refine gc_ 27 ?_); refine gM_ (some 5) Tryz.func27 #[.agg #[.slice A0_0 l0_0.length c0_0, .int .i64 a0_1]] ?_; (with_reducible refine (spec_inGood.calls k _ _ l0_0 a0_1 true _ ?side1 ?side2 A2.out).mono ?_); (case side1 => exact cU_ (Kd.C_below HR0_0.out HB.out)); (case side2 => exact HC0_0.out); rintro e w7 ⟨rfl, hb⟩; refine ⟨_, rfl, ?_⟩; replace BK287 := M_ (kb_ BK287 hb); replace HB := M_ (bS_ HB hb); clear hb; obtain ⟨hcz8_0, hcz8_1, hfz8_0, hfz8_1⟩ := bq2_ BK287) | ((with_reducible refine gc_ 28 ?_); refine gM_ (some 8) Tryz.func28 #[.agg #[.slice A0_0 l0_0.length c0_0, .int .i64 a0_1]] ?_; (with_reducible refine (spec_inText.calls k _ _ l0_0 a0_1 t289 _ ?side1 ?side2 A4.out).mono ?_); (case side1 => exact cU_ (Kd.C_below HR0_0.out HB.out)); (case side2 => exact HC0_0.out); rintro e w9 ⟨rfl, hb⟩; refine ⟨_, rfl, ?_⟩; replace BK287 := M_ (kb_ BK287 hb); replace HB := M_ (bS_ HB hb); clear hb))
  go_ret2
  exact ⟨eR_, bU_ HB⟩
 ·replace c3 := Bool.eq_false_iff.mpr c3
  subst c3
  rw [if_neg (show ¬ (false = true) by decide)] at H
  simp only [Option.some.injEq, Prod.mk.injEq] at H;obtain ⟨rfl, rfl⟩ := H
  go_enter Tryz.func6, Tryz.ntmps6
  go_wp2_with (first | ((with_reducible refine gate_dst (N := 1) rfl ?_); refine bx_ (N := 1) (cs := #[.slice A0_0 l0_0.length c0_0, .int .i64 a0_1]) (t := 25) ?_; intro gb287 hg w10 hbox hb; have BK287 := M_ (hbox); have GW287 := M_ (gw_ HB hg); have GE287 := M_ (gw_ HB hg); replace HB := M_ (bS_ HB hb); clear hb hbox hg; obtain ⟨hcz11_0, hcz11_1, hfz11_0, hfz11_1⟩ := bq2_ BK287) | ((with_reducible refine gc_ 27 ?_); refine gM_ (some 5) Tryz.func27 #[.agg #[.slice A0_0 l0_0.length c0_0, .int .i64 a0_1]] ?_; (with_reducible refine (spec_inGood.calls k _ _ l0_0 a0_1 false _ ?side1 ?side2 A2.out).mono ?_); (case side1 => exact cU_ (Kd.C_below HR0_0.out HB.out)); (case side2 => exact HC0_0.out); rintro e w12 ⟨rfl, hb⟩; refine ⟨_, rfl, ?_⟩; replace BK287 := M_ (kb_ BK287 hb); replace HB := M_ (bS_ HB hb); clear hb))
  go_ret2
  exact ⟨eR_, bU_ HB⟩

end Go.Proofs.YtpkklbjdhmpjnaaGreatDoor.PFnInstruments
