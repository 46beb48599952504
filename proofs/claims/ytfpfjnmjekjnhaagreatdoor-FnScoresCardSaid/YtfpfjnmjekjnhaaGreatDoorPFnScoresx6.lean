-- by wip/xprint.py, over the kit's printer
import Derived.Test.YtfpfjnmjekjnhaaGreatDoorPFnScoresx0
import Derived.Test.YtfpfjnmjekjnhaaGreatDoorPFnScoresx4
import Derived.Test.YtfpfjnmjekjnhaaGreatDoorPFnScoresx5
namespace Go.Proofs.YtfpfjnmjekjnhaaGreatDoor.PFnScores
open Go.RowKit Go.Proofs.YtfpfjnmjekjnhaaGreatDoorW.PrintWords Go.Proofs.YtfpfjnmjekjnhaaGreatDoorW.PrintLast Go.Proofs.YtfpfjnmjekjnhaaGreatDoorW.PrintMore
attribute [local go_sem] max2_int min2_int max_two min_two max_three min_three max_four min_four   -- for this text's walks alone
set_option linter.unusedVariables false
set_option linter.unusedSimpArgs false

def impl_numberLine.l0 : Nat → List Int → List ByteArray → Int → Int → Option (List Int × Bool)
 | 0, _, _, _, _ => none
 | k + 1, x7, x19, x20, x21 => if x21 < x20 then (if 0 ≤ x21 then (if x21 < (x19.length : Int) then ((impl_decimal.f k (rdOf ByteArray.empty x19 x21)).bind fun bt157 => (if bt157.2 = true then (if x7.length < 17592186044416 then (impl_numberLine.l0 k (x7 ++ [bt157.1]) x19 x20 (wrap64 (x21 + 1))) else (none)) else (some (([] : List Int), false)))) else (none)) else (none)) else (some (x7, true))
def impl_numberLine.f (k : Nat) (a0 : ByteArray) (a1 : Int) : Option (List Int × Bool) := (strings_Split.f a0 (⟨#[32]⟩ : ByteArray)).bind fun t150 => (if (t150.length : Int) = a1 then (impl_numberLine.l0 k (([] : List Int)) t150 (t150.length : Int) 0) else (some (([] : List Int), false)))
theorem impl_numberLine.mono_l : ∀ k, (∀ y0 y1 y2 y3, LeO (impl_numberLine.l0 k y0 y1 y2 y3) (impl_numberLine.l0 (k + 1) y0 y1 y2 y3))
 | 0 => fun _ _ _ _ r h => by simp [impl_numberLine.l0] at h
 | k + 1 => by
  have ih0 := impl_numberLine.mono_l k
  ·intro y0 y1 y2 y3
   unfold impl_numberLine.l0
   have m0_ := @impl_decimal.mono;exact mo_
theorem impl_numberLine.mono : ∀ a0 a1 k, LeO (impl_numberLine.f k a0 a1) (impl_numberLine.f (k + 1) a0 a1) := by
 intro a0 a1 k;have ih0 := impl_numberLine.mono_l k
 unfold impl_numberLine.f
 have m0_ := @impl_decimal.mono;exact mo_
set_option maxHeartbeats 8000000 in
set_option maxRecDepth 100000 in
theorem impl_numberLine.calls (k : Nat) (a0 : ByteArray) (a1 : Int) (r1 : List Int) (r2 : Bool) (w : World) (hM : ∃ m, w.cell? ⟨0, 0, none⟩ = some (.int .i64 m)) (h : impl_numberLine.f k a0 a1 = some (r1, r2)) :
  Calls Tryz.prog 64 #[.string a0, .int .i64 a1] w fun e w' => ∃ v0_ : Value, e = .returned (.tuple #[v0_, .bool r2]) ∧ Kd.R (Kd.int .i64) 3 w' w.heap.size (fun _ => True) v0_ r1 ∧ Below w.heap.size w w' := by
 have HM := M_ hM;clear hM;have HB := M_ (Below.refl w.heap.size w)
 have H : ((strings_Split.f a0 (⟨#[32]⟩ : ByteArray)).bind fun t150 => (if (t150.length : Int) = a1 then (impl_numberLine.l0 k (([] : List Int)) t150 (t150.length : Int) 0) else (some (([] : List Int), false)))) = some (r1, r2) := h
 clear h;replace H := Option.bind_eq_some_iff.mp H;obtain ⟨t150, A30, H⟩ := H;(try dsimp only at H);have A3 := M_ A30;clear A30
 by_cases c4 : (t150.length : Int) = a1
 focus
  rw [if_pos c4] at H
  have c4b0 : ((t150.length : Int) == a1) = true := beq_iff_eq.mpr c4
  have c4b1 : ((t150.length : Int) != a1) = false := bne_eq_false_iff_eq.mpr c4
  clear c4;obtain ⟨y153, hy153⟩ : ∃ y_ : List Int, y_ = (([] : List Int)) := ⟨_, rfl⟩
  replace H : (impl_numberLine.l0 k y153 t150 (t150.length : Int) 0) = some (r1, r2) := by first | (rw [hy153]; with_reducible exact H) | (have H2_ := (Option.bind_some _ _).symm.trans H; rw [hy153]; with_reducible exact H2_) | (have H2_ := (Option.bind_some _ _).symm.trans H; with_reducible exact H2_) | with_reducible exact H | (rw [hy153]; exact H) | exact H
  have Ny153 := M_ hy153;clear hy153
  have H' := M_ H
  clear H
 rotate_left
 focus
  rw [if_neg c4] at H
  have c4b0 : ((t150.length : Int) == a1) = false := beq_eq_false_iff_ne.mpr c4
  have c4b1 : ((t150.length : Int) != a1) = true := bne_iff_ne.mpr c4
  simp only [Option.some.injEq, Prod.mk.injEq] at H;obtain ⟨rfl, rfl⟩ := H
 rotate_left
 all_goals
  go_enter Tryz.func64, Tryz.ntmps64
  go_wp2_with (first | ((with_reducible refine gc_ 89 ?_); refine gM_ (some 13) Tryz.func89 #[.string a0, .string (⟨#[32]⟩ : ByteArray)] ?_; (with_reducible refine (strings_Split.calls a0 (⟨#[32]⟩ : ByteArray) t150 _ (someInt_ HM.out (bU_ HB)) A3.out).mono ?_); rintro e w5 ⟨v151, rfl, ho0, hb⟩; refine ⟨_, rfl, ?_⟩; have HO152 := M_ (Kd.R_lower ho0 (bZ_ HB)); replace HB := M_ (bS_ HB hb); clear hb ho0; obtain ⟨Ao6, co6, eo6⟩ := Kd.R_slice HO152.out; subst eo6) | ((with_reducible refine gate_dst (N := 18) rfl ?_); refine lt_ (Kd.int .i64) 3 (N := 18) (([] : List Int)) [] ri_ ?_; intro v154 w7 ho8 hb hg_ hnew_; clear hg_ hnew_; replace ho8 := rN_ Ny153 ho8; replace HO152 := M_ (rB_ HO152 hb); have HO155 := M_ (Kd.R_lower ho8 (bZ_ HB)); replace HB := M_ (bS_ HB hb); clear hb ho8))
 ·go_loopg [7, 21] k (fun kq v7 v21 w' => ∃ (x7_1 : List Int) (x21_1 : Int), v21 = .int .i64 x21_1 ∧ Aside0 (impl_numberLine.l0 kq x7_1 t150 (t150.length : Int) x21_1 = some (r1, r2)) ∧ Aside0 (kq ≤ k) ∧ Aside0 (Kd.R (Kd.int .i64) 3 w' w.heap.size (fun _ => True) v7 x7_1) ∧ Aside0 (Kd.R Kd.string 9 w' w.heap.size (fun _ => True) (.slice Ao6 t150.length co6) t150) ∧ Aside0 (Below w.heap.size w w'))
  case atStart => exact ⟨(y153), (0), eD_, H', ⟨Nat.le_refl _⟩, ⟨rU_ HO155.out⟩, ⟨rU_ HO152.out⟩, ⟨bU_ HB⟩⟩
  case round =>
   clear H';obtain ⟨x7_1, x21_1, rfl, HA, HK1, HO_7, HO_19, HB⟩ := hrel
   cases gk with
   | zero => exact absurd HA.out (by simp [impl_numberLine.l0])
   | succ k1 =>
    have H := HA.out;clear HA;simp only [impl_numberLine.l0] at H
    by_cases c9 : x21_1 < (t150.length : Int)
    ·rw [if_pos c9] at H
     have c9b0 : decide (x21_1 < (t150.length : Int)) = true := decide_eq_true c9
     clear c9
     by_cases c10 : 0 ≤ x21_1
     ·rw [if_pos c10] at H
      have c10b0 : decide (0 ≤ x21_1) = true := decide_eq_true c10
      clear c10
      by_cases c11 : x21_1 < (t150.length : Int)
      ·rw [if_pos c11] at H
       have c11b0 : decide (x21_1 < (t150.length : Int)) = true := decide_eq_true c11
       clear c11;replace H := Option.bind_eq_some_iff.mp H;obtain ⟨⟨t157, t158⟩, A120, H⟩ := H;(try dsimp only at H);have A12 := M_ A120;clear A120
       by_cases c13 : t158 = true
       ·subst c13
        rw [if_pos rfl] at H
        by_cases c14 : x7_1.length < 17592186044416
        ·rw [if_pos c14] at H
         have LMc14 := M_ c14;clear c14;obtain ⟨y159, hy159⟩ : ∃ y_ : List Int, y_ = (x7_1 ++ [t157]) := ⟨_, rfl⟩
         replace H : (impl_numberLine.l0 k1 y159 t150 (t150.length : Int) (wrap64 (x21_1 + 1))) = some (r1, r2) := by first | (rw [hy159]; with_reducible exact H) | (have H2_ := (Option.bind_some _ _).symm.trans H; rw [hy159]; with_reducible exact H2_) | (have H2_ := (Option.bind_some _ _).symm.trans H; with_reducible exact H2_) | with_reducible exact H | (rw [hy159]; exact H) | exact H
         have Ny159 := M_ hy159;clear hy159
         have H' := M_ H
         clear H
         have p156 : 0 ≤ (x21_1 : Int) := dT_
         have q156 : x21_1 < (t150.length : Int) := dT_
         obtain ⟨ad156, e156, hx156_0⟩ := Kd.at_string (Kd.R_reads' HO_19.out).2.2 x21_1 p156 q156;cases e156;replace p156 := eq_true p156;replace q156 := eq_true q156
         go_wp2_with (first | ((with_reducible refine gc_ 91 ?_); refine gM_ (some 27) Tryz.func91 #[.string (rdOf ByteArray.empty t150 x21_1)] ?_; (with_reducible refine (impl_decimal.calls k1 (rdOf ByteArray.empty t150 x21_1) t157 true _ A12.out).mono ?_); rintro e w' ⟨rfl, ⟨nd, rfl⟩⟩; refine ⟨_, rfl, ?_⟩) | ((with_reducible refine gate_builtin (b := .append) (xs := #[.tmp 32, .tmp 34]) rfl ?_); at_builtin; refine Kd.R_append (Kd.int .i64) (w0 := w) w.heap.size rfl (.tmp 32) (.tmp 34) 38 3 (.int .i64 0) 8 rfl Tryz.underlying38 info3 rfl (by decide) (by omega) u7 x7_1 t157 [.int .i64 t157] (fun _ => True) (fun _ => False) rfl rfl ?aP (fun _ hk => hk.elim) ?aF ?aO ?aB ?aS ?aL ?_; (case aP => exact rfl); (case aB => exact (bU_ HB)); (case aF => exact (fun _ _ => trivial)); (case aO => exact (rU_ HO_7.out)); (case aS => exact (bZ_ HB)); (case aL => have := LMc14.out; omega); intro v160 w15 ho hb hg hat; rw [← Ny159.out] at ho; replace HO_19 := M_ (Kd.R_over' (rU_ HO_19.out) (Kd.R_typed (rU_ HO_7.out)) (by decide) hg); replace HB := M_ (hb); have HO161 := M_ (ho); clear HO_7; clear ho hb hg hat))
         go_roundg k1
         case measure => have := HK1.out; omega
         case rel => exact ⟨(y159), (wrap64 (x21_1 + 1)), eD_, H', ⟨by have := HK1.out; omega⟩, ⟨rU_ HO161.out⟩, ⟨rU_ HO_19.out⟩, ⟨bU_ HB⟩⟩
        ·rw [if_neg c14] at H
         exact absurd H (by simp)
       ·replace c13 := Bool.eq_false_iff.mpr c13
        subst c13
        rw [if_neg (show ¬ (false = true) by decide)] at H
        simp only [Option.some.injEq, Prod.mk.injEq] at H;obtain ⟨rfl, rfl⟩ := H
        have p156 : 0 ≤ (x21_1 : Int) := dT_
        have q156 : x21_1 < (t150.length : Int) := dT_
        obtain ⟨ad156, e156, hx156_0⟩ := Kd.at_string (Kd.R_reads' HO_19.out).2.2 x21_1 p156 q156;cases e156;replace p156 := eq_true p156;replace q156 := eq_true q156
        go_wp2_with (first | ((with_reducible refine gc_ 91 ?_); refine gM_ (some 27) Tryz.func91 #[.string (rdOf ByteArray.empty t150 x21_1)] ?_; (with_reducible refine (impl_decimal.calls k1 (rdOf ByteArray.empty t150 x21_1) t157 false _ A12.out).mono ?_); rintro e w' ⟨rfl, ⟨nd, rfl⟩⟩; refine ⟨_, rfl, ?_⟩))
        go_ret2
        exact ⟨_, eR_, by first | exact Kd.R_nil _ _ _ _ _ | exact Kd.N_nil _ _ _ _ _ | exact Kd.V_nil _ _ _ _ _ | exact Kd.Q_nil _ _ _ _ _ | exact Kd.S_nil _ _ _ _ _, bU_ HB⟩
      ·rw [if_neg c11] at H
       exact absurd H (by simp)
     ·rw [if_neg c10] at H
      exact absurd H (by simp)
    ·rw [if_neg c9] at H
     have c9b0 : decide (x21_1 < (t150.length : Int)) = false := decide_eq_false c9
     clear c9;simp only [Option.some.injEq, Prod.mk.injEq] at H;obtain ⟨rfl, rfl⟩ := H
     go_wp2
     go_ret2
     exact ⟨_, eR_, rU_ HO_7.out, bU_ HB⟩
 ·go_ret2
  exact ⟨_, eR_, by first | exact Kd.R_nil _ _ _ _ _ | exact Kd.N_nil _ _ _ _ _ | exact Kd.V_nil _ _ _ _ _ | exact Kd.Q_nil _ _ _ _ _ | exact Kd.S_nil _ _ _ _ _, bU_ HB⟩
-- NOT PRINTED: function 147 (strconv_small)

-- NOT PRINTED: function 159 (strconv_log10Pow2)

-- NOT PRINTED: function 160 (strconv_bool2_int)

-- NOT PRINTED: function 148 (strconv_numDigits)

-- NOT PRINTED: function 149 (strconv_formatBase10)

-- NOT PRINTED: function 161 (strconv_isPowerOfTwo)

-- NOT PRINTED: function 164 (bits_TrailingZeros32)

-- NOT PRINTED: function 165 (bits_TrailingZeros64)

-- NOT PRINTED: function 162 (bits_TrailingZeros)

-- NOT PRINTED: function 150 (strconv_formatBits)

-- NOT PRINTED: function 131 (strconv_FormatInt)

-- NOT PRINTED: function 103 (strconv_Itoa_103)

-- XNAME strconv_Itoa_84 itoa
-- XSHELF
def itoa.f (a0 : Int) : Option (ByteArray) := if 0 ≤ a0 then (if a0 < 100 then some (⟨(Lib.decDigits a0.toNat).toArray⟩ : ByteArray) else none) else none
theorem itoa.calls (a0 : Int) (r : ByteArray) (w : World) (h : itoa.f a0 = some r) :
  Calls Tryz.prog 84 #[.int .i64 a0] w fun e w' => e = .returned (.string r) ∧ Drawn0 w w' := by
 unfold itoa.f at h
 by_cases h0 : 0 ≤ a0
 case neg => rw [if_neg h0] at h; cases h
 by_cases h1 : a0 < 100
 case neg => rw [if_pos h0, if_neg h1] at h; cases h
 rw [if_pos h0, if_pos h1] at h
 obtain rfl := Option.some.inj h;clear h;obtain ⟨i, rfl⟩ := Int.eq_ofNat_of_zero_le h0;refine (Tryz.strconv_Itoa_small i (by omega) w).mono ?_;rintro e w' ⟨rfl, rfl⟩;exact ⟨by rw [Int.toNat_natCast], Drawn0.refl _⟩
def impl_pitchName.f (a0 : Int) : Option (ByteArray) := (some (([(⟨#[99]⟩ : ByteArray), (⟨#[99, 35]⟩ : ByteArray), (⟨#[100]⟩ : ByteArray), (⟨#[100, 35]⟩ : ByteArray), (⟨#[101]⟩ : ByteArray), (⟨#[102]⟩ : ByteArray), (⟨#[102, 35]⟩ : ByteArray), (⟨#[103]⟩ : ByteArray), (⟨#[103, 35]⟩ : ByteArray), (⟨#[97]⟩ : ByteArray), (⟨#[97, 35]⟩ : ByteArray), (⟨#[98]⟩ : ByteArray)] : List ByteArray) : List ByteArray)).bind fun y162 => (if 0 ≤ (Int.tmod a0 12) then (if (Int.tmod a0 12) < (y162.length : Int) then ((itoa.f (wrap64 (Int.tdiv a0 12))).bind fun t166 => (if (rdOf ByteArray.empty y162 (Int.tmod a0 12)).size + t166.size ≤ 9223372036854775807 then (some ((rdOf ByteArray.empty y162 (Int.tmod a0 12)) ++ t166)) else (none))) else (none)) else (none))
set_option maxHeartbeats 8000000 in
set_option maxRecDepth 100000 in
theorem impl_pitchName.calls (a0 : Int) (r : ByteArray) (w : World) (h : impl_pitchName.f a0 = some r) :
  Calls Tryz.prog 55 #[.int .i64 a0] w fun e w' => e = .returned (.string r) ∧ Below w.heap.size w w' := by
 have HB := M_ (Below.refl w.heap.size w)
 have H : ((some (([(⟨#[99]⟩ : ByteArray), (⟨#[99, 35]⟩ : ByteArray), (⟨#[100]⟩ : ByteArray), (⟨#[100, 35]⟩ : ByteArray), (⟨#[101]⟩ : ByteArray), (⟨#[102]⟩ : ByteArray), (⟨#[102, 35]⟩ : ByteArray), (⟨#[103]⟩ : ByteArray), (⟨#[103, 35]⟩ : ByteArray), (⟨#[97]⟩ : ByteArray), (⟨#[97, 35]⟩ : ByteArray), (⟨#[98]⟩ : ByteArray)] : List ByteArray) : List ByteArray)).bind fun y162 => (if 0 ≤ (Int.tmod a0 12) then (if (Int.tmod a0 12) < (y162.length : Int) then ((itoa.f (wrap64 (Int.tdiv a0 12))).bind fun t166 => (if (rdOf ByteArray.empty y162 (Int.tmod a0 12)).size + t166.size ≤ 9223372036854775807 then (some ((rdOf ByteArray.empty y162 (Int.tmod a0 12)) ++ t166)) else (none))) else (none)) else (none))) = some r := h
 clear h;obtain ⟨y162, hy162, H⟩ := ob_ H;(try dsimp only at H);have Ny162 := M_ hy162;clear hy162;obtain ⟨ji2, hji2⟩ : ∃ j_ : Int, (Int.tmod a0 12) = j_ := ⟨_, rfl⟩
 replace H : (if 0 ≤ (ji2) then (if (ji2) < (y162.length : Int) then ((itoa.f (wrap64 (Int.tdiv a0 12))).bind fun t166 => (if (rdOf ByteArray.empty y162 (ji2)).size + t166.size ≤ 9223372036854775807 then (some ((rdOf ByteArray.empty y162 (ji2)) ++ t166)) else (none))) else (none)) else (none)) = some r := by first | (rw [hji2] at H; exact H) | (simp only [hji2] at H ⊢; exact H)
 by_cases c3 : 0 ≤ (ji2)
 ·rw [if_pos c3] at H
  have c3b0 : decide (0 ≤ (ji2)) = true := decide_eq_true c3
  clear c3
  by_cases c4 : (ji2) < (y162.length : Int)
  ·rw [if_pos c4] at H
   have c4b0 : decide ((ji2) < (y162.length : Int)) = true := decide_eq_true c4
   clear c4;replace H := Option.bind_eq_some_iff.mp H;obtain ⟨t166, A50, H⟩ := H;(try dsimp only at H);have A5 := M_ A50;clear A50
   by_cases c6 : (rdOf ByteArray.empty y162 (ji2)).size + t166.size ≤ 9223372036854775807
   ·rw [if_pos c6] at H
    have c6b0 := eq_true c6
    have c6b1 : decide ((rdOf ByteArray.empty y162 (ji2)).size + t166.size ≤ 9223372036854775807) = true := decide_eq_true c6
    try have c6b2 : (9223372036854775807 < (rdOf ByteArray.empty y162 (ji2)).size + t166.size) = False := eq_false (Nat.not_lt.2 c6)
    obtain rfl := Option.some.inj H
    go_enter Tryz.func55, Tryz.ntmps55
    go_wp2_with (first | ((with_reducible refine gate_dst (N := 4) rfl ?_); refine Kd.R_lit Kd.string _ 9 ?hg (N := 4) ?hd (xs := ([(⟨#[99]⟩ : ByteArray), (⟨#[99, 35]⟩ : ByteArray), (⟨#[100]⟩ : ByteArray), (⟨#[100, 35]⟩ : ByteArray), (⟨#[101]⟩ : ByteArray), (⟨#[102]⟩ : ByteArray), (⟨#[102, 35]⟩ : ByteArray), (⟨#[103]⟩ : ByteArray), (⟨#[103, 35]⟩ : ByteArray), (⟨#[97]⟩ : ByteArray), (⟨#[97, 35]⟩ : ByteArray), (⟨#[98]⟩ : ByteArray)] : List ByteArray)) (inner := [.string (⟨#[99]⟩ : ByteArray), .string (⟨#[99, 35]⟩ : ByteArray), .string (⟨#[100]⟩ : ByteArray), .string (⟨#[100, 35]⟩ : ByteArray), .string (⟨#[101]⟩ : ByteArray), .string (⟨#[102]⟩ : ByteArray), .string (⟨#[102, 35]⟩ : ByteArray), .string (⟨#[103]⟩ : ByteArray), .string (⟨#[103, 35]⟩ : ByteArray), .string (⟨#[97]⟩ : ByteArray), .string (⟨#[97, 35]⟩ : ByteArray), .string (⟨#[98]⟩ : ByteArray)]) (ok := fun _ => True) (okp := fun _ => True) ?hr ?hp (fun _ hk => hk) trivial (Below.refl _ _) (Nat.le_refl _) (by simp) ?_; (case hd => rfl); (case hg => rfl); (case hr => first | (go_simp; done) | (go_simp; rfl)); (case hp => exact (Reps.one (show Kd.M Kd.string _ _ _ (⟨#[99]⟩ : ByteArray) [.string (⟨#[99]⟩ : ByteArray)] from rfl) (Reps.one (show Kd.M Kd.string _ _ _ (⟨#[99, 35]⟩ : ByteArray) [.string (⟨#[99, 35]⟩ : ByteArray)] from rfl) (Reps.one (show Kd.M Kd.string _ _ _ (⟨#[100]⟩ : ByteArray) [.string (⟨#[100]⟩ : ByteArray)] from rfl) (Reps.one (show Kd.M Kd.string _ _ _ (⟨#[100, 35]⟩ : ByteArray) [.string (⟨#[100, 35]⟩ : ByteArray)] from rfl) (Reps.one (show Kd.M Kd.string _ _ _ (⟨#[101]⟩ : ByteArray) [.string (⟨#[101]⟩ : ByteArray)] from rfl) (Reps.one (show Kd.M Kd.string _ _ _ (⟨#[102]⟩ : ByteArray) [.string (⟨#[102]⟩ : ByteArray)] from rfl) (Reps.one (show Kd.M Kd.string _ _ _ (⟨#[102, 35]⟩ : ByteArray) [.string (⟨#[102, 35]⟩ : ByteArray)] from rfl) (Reps.one (show Kd.M Kd.string _ _ _ (⟨#[103]⟩ : ByteArray) [.string (⟨#[103]⟩ : ByteArray)] from rfl) (Reps.one (show Kd.M Kd.string _ _ _ (⟨#[103, 35]⟩ : ByteArray) [.string (⟨#[103, 35]⟩ : ByteArray)] from rfl) (Reps.one (show Kd.M Kd.string _ _ _ (⟨#[97]⟩ : ByteArray) [.string (⟨#[97]⟩ : ByteArray)] from rfl) (Reps.one (show Kd.M Kd.string _ _ _ (⟨#[97, 35]⟩ : ByteArray) [.string (⟨#[97, 35]⟩ : ByteArray)] from rfl) (Reps.one (show Kd.M Kd.string _ _ _ (⟨#[98]⟩ : ByteArray) [.string (⟨#[98]⟩ : ByteArray)] from rfl) (Reps.none _ _)))))))))))))); intro v163 w7 ho8 hb hg_ hnew_; clear hg_ hnew_; (first | rw [← Ny162.out] at ho8 | (simp only [Int.reduceToNat] at ho8; rw [← Ny162.out] at ho8)); have HO164 := M_ (Kd.R_lower ho8 (bZ_ HB)); replace HB := M_ (bS_ HB hb); clear hb ho8; obtain ⟨Ao9, co9, eo9⟩ := Kd.R_slice HO164.out; subst eo9; have p165 : 0 ≤ ((ji2) : Int) := dT_; have q165 : (ji2) < (y162.length : Int) := dT_; obtain ⟨ad165, e165, hx165_0⟩ := Kd.at_string (Kd.R_reads' HO164.out).2.2 (ji2) p165 q165; cases e165; replace p165 := eq_true p165; replace q165 := eq_true q165) | (go_at_call 84; (with_reducible refine (itoa.calls (wrap64 (Int.tdiv a0 12)) t166 _ A5.out).mono ?_); rintro e w' ⟨rfl, ⟨nd, rfl⟩⟩; (try first | exact ⟨rfl, _, World.drewN_drewN _ _ _⟩ | exact ⟨rfl, _, Eq.trans (World.drewN_drewN _ _ _) (congrArg (World.drewN _) (Nat.add_assoc _ _ _))⟩)))
    repeat (go_quiet (first | ((with_reducible refine gate_dst (N := 4) rfl ?_); refine Kd.R_lit Kd.string _ 9 ?hg (N := 4) ?hd (xs := ([(⟨#[99]⟩ : ByteArray), (⟨#[99, 35]⟩ : ByteArray), (⟨#[100]⟩ : ByteArray), (⟨#[100, 35]⟩ : ByteArray), (⟨#[101]⟩ : ByteArray), (⟨#[102]⟩ : ByteArray), (⟨#[102, 35]⟩ : ByteArray), (⟨#[103]⟩ : ByteArray), (⟨#[103, 35]⟩ : ByteArray), (⟨#[97]⟩ : ByteArray), (⟨#[97, 35]⟩ : ByteArray), (⟨#[98]⟩ : ByteArray)] : List ByteArray)) (inner := [.string (⟨#[99]⟩ : ByteArray), .string (⟨#[99, 35]⟩ : ByteArray), .string (⟨#[100]⟩ : ByteArray), .string (⟨#[100, 35]⟩ : ByteArray), .string (⟨#[101]⟩ : ByteArray), .string (⟨#[102]⟩ : ByteArray), .string (⟨#[102, 35]⟩ : ByteArray), .string (⟨#[103]⟩ : ByteArray), .string (⟨#[103, 35]⟩ : ByteArray), .string (⟨#[97]⟩ : ByteArray), .string (⟨#[97, 35]⟩ : ByteArray), .string (⟨#[98]⟩ : ByteArray)]) (ok := fun _ => True) (okp := fun _ => True) ?hr ?hp (fun _ hk => hk) trivial (Below.refl _ _) (Nat.le_refl _) (by simp) ?_; (case hd => rfl); (case hg => rfl); (case hr => first | (go_simp; done) | (go_simp; rfl)); (case hp => exact (Reps.one (show Kd.M Kd.string _ _ _ (⟨#[99]⟩ : ByteArray) [.string (⟨#[99]⟩ : ByteArray)] from rfl) (Reps.one (show Kd.M Kd.string _ _ _ (⟨#[99, 35]⟩ : ByteArray) [.string (⟨#[99, 35]⟩ : ByteArray)] from rfl) (Reps.one (show Kd.M Kd.string _ _ _ (⟨#[100]⟩ : ByteArray) [.string (⟨#[100]⟩ : ByteArray)] from rfl) (Reps.one (show Kd.M Kd.string _ _ _ (⟨#[100, 35]⟩ : ByteArray) [.string (⟨#[100, 35]⟩ : ByteArray)] from rfl) (Reps.one (show Kd.M Kd.string _ _ _ (⟨#[101]⟩ : ByteArray) [.string (⟨#[101]⟩ : ByteArray)] from rfl) (Reps.one (show Kd.M Kd.string _ _ _ (⟨#[102]⟩ : ByteArray) [.string (⟨#[102]⟩ : ByteArray)] from rfl) (Reps.one (show Kd.M Kd.string _ _ _ (⟨#[102, 35]⟩ : ByteArray) [.string (⟨#[102, 35]⟩ : ByteArray)] from rfl) (Reps.one (show Kd.M Kd.string _ _ _ (⟨#[103]⟩ : ByteArray) [.string (⟨#[103]⟩ : ByteArray)] from rfl) (Reps.one (show Kd.M Kd.string _ _ _ (⟨#[103, 35]⟩ : ByteArray) [.string (⟨#[103, 35]⟩ : ByteArray)] from rfl) (Reps.one (show Kd.M Kd.string _ _ _ (⟨#[97]⟩ : ByteArray) [.string (⟨#[97]⟩ : ByteArray)] from rfl) (Reps.one (show Kd.M Kd.string _ _ _ (⟨#[97, 35]⟩ : ByteArray) [.string (⟨#[97, 35]⟩ : ByteArray)] from rfl) (Reps.one (show Kd.M Kd.string _ _ _ (⟨#[98]⟩ : ByteArray) [.string (⟨#[98]⟩ : ByteArray)] from rfl) (Reps.none _ _)))))))))))))); intro v163 w7 ho8 hb hg_ hnew_; clear hg_ hnew_; (first | rw [← Ny162.out] at ho8 | (simp only [Int.reduceToNat] at ho8; rw [← Ny162.out] at ho8)); have HO164 := M_ (Kd.R_lower ho8 (bZ_ HB)); replace HB := M_ (bS_ HB hb); clear hb ho8; obtain ⟨Ao9, co9, eo9⟩ := Kd.R_slice HO164.out; subst eo9; have p165 : 0 ≤ ((ji2) : Int) := dT_; have q165 : (ji2) < (y162.length : Int) := dT_; obtain ⟨ad165, e165, hx165_0⟩ := Kd.at_string (Kd.R_reads' HO164.out).2.2 (ji2) p165 q165; cases e165; replace p165 := eq_true p165; replace q165 := eq_true q165) | (go_at_call 84; (with_reducible refine (itoa.calls (wrap64 (Int.tdiv a0 12)) t166 _ A5.out).mono ?_); rintro e w' ⟨rfl, ⟨nd, rfl⟩⟩; (try first | exact ⟨rfl, _, World.drewN_drewN _ _ _⟩ | exact ⟨rfl, _, Eq.trans (World.drewN_drewN _ _ _) (congrArg (World.drewN _) (Nat.add_assoc _ _ _))⟩))); try go_wp2_with (first | ((with_reducible refine gate_dst (N := 4) rfl ?_); refine Kd.R_lit Kd.string _ 9 ?hg (N := 4) ?hd (xs := ([(⟨#[99]⟩ : ByteArray), (⟨#[99, 35]⟩ : ByteArray), (⟨#[100]⟩ : ByteArray), (⟨#[100, 35]⟩ : ByteArray), (⟨#[101]⟩ : ByteArray), (⟨#[102]⟩ : ByteArray), (⟨#[102, 35]⟩ : ByteArray), (⟨#[103]⟩ : ByteArray), (⟨#[103, 35]⟩ : ByteArray), (⟨#[97]⟩ : ByteArray), (⟨#[97, 35]⟩ : ByteArray), (⟨#[98]⟩ : ByteArray)] : List ByteArray)) (inner := [.string (⟨#[99]⟩ : ByteArray), .string (⟨#[99, 35]⟩ : ByteArray), .string (⟨#[100]⟩ : ByteArray), .string (⟨#[100, 35]⟩ : ByteArray), .string (⟨#[101]⟩ : ByteArray), .string (⟨#[102]⟩ : ByteArray), .string (⟨#[102, 35]⟩ : ByteArray), .string (⟨#[103]⟩ : ByteArray), .string (⟨#[103, 35]⟩ : ByteArray), .string (⟨#[97]⟩ : ByteArray), .string (⟨#[97, 35]⟩ : ByteArray), .string (⟨#[98]⟩ : ByteArray)]) (ok := fun _ => True) (okp := fun _ => True) ?hr ?hp (fun _ hk => hk) trivial (Below.refl _ _) (Nat.le_refl _) (by simp) ?_; (case hd => rfl); (case hg => rfl); (case hr => first | (go_simp; done) | (go_simp; rfl)); (case hp => exact (Reps.one (show Kd.M Kd.string _ _ _ (⟨#[99]⟩ : ByteArray) [.string (⟨#[99]⟩ : ByteArray)] from rfl) (Reps.one (show Kd.M Kd.string _ _ _ (⟨#[99, 35]⟩ : ByteArray) [.string (⟨#[99, 35]⟩ : ByteArray)] from rfl) (Reps.one (show Kd.M Kd.string _ _ _ (⟨#[100]⟩ : ByteArray) [.string (⟨#[100]⟩ : ByteArray)] from rfl) (Reps.one (show Kd.M Kd.string _ _ _ (⟨#[100, 35]⟩ : ByteArray) [.string (⟨#[100, 35]⟩ : ByteArray)] from rfl) (Reps.one (show Kd.M Kd.string _ _ _ (⟨#[101]⟩ : ByteArray) [.string (⟨#[101]⟩ : ByteArray)] from rfl) (Reps.one (show Kd.M Kd.string _ _ _ (⟨#[102]⟩ : ByteArray) [.string (⟨#[102]⟩ : ByteArray)] from rfl) (Reps.one (show Kd.M Kd.string _ _ _ (⟨#[102, 35]⟩ : ByteArray) [.string (⟨#[102, 35]⟩ : ByteArray)] from rfl) (Reps.one (show Kd.M Kd.string _ _ _ (⟨#[103]⟩ : ByteArray) [.string (⟨#[103]⟩ : ByteArray)] from rfl) (Reps.one (show Kd.M Kd.string _ _ _ (⟨#[103, 35]⟩ : ByteArray) [.string (⟨#[103, 35]⟩ : ByteArray)] from rfl) (Reps.one (show Kd.M Kd.string _ _ _ (⟨#[97]⟩ : ByteArray) [.string (⟨#[97]⟩ : ByteArray)] from rfl) (Reps.one (show Kd.M Kd.string _ _ _ (⟨#[97, 35]⟩ : ByteArray) [.string (⟨#[97, 35]⟩ : ByteArray)] from rfl) (Reps.one (show Kd.M Kd.string _ _ _ (⟨#[98]⟩ : ByteArray) [.string (⟨#[98]⟩ : ByteArray)] from rfl) (Reps.none _ _)))))))))))))); intro v163 w7 ho8 hb hg_ hnew_; clear hg_ hnew_; (first | rw [← Ny162.out] at ho8 | (simp only [Int.reduceToNat] at ho8; rw [← Ny162.out] at ho8)); have HO164 := M_ (Kd.R_lower ho8 (bZ_ HB)); replace HB := M_ (bS_ HB hb); clear hb ho8; obtain ⟨Ao9, co9, eo9⟩ := Kd.R_slice HO164.out; subst eo9; have p165 : 0 ≤ ((ji2) : Int) := dT_; have q165 : (ji2) < (y162.length : Int) := dT_; obtain ⟨ad165, e165, hx165_0⟩ := Kd.at_string (Kd.R_reads' HO164.out).2.2 (ji2) p165 q165; cases e165; replace p165 := eq_true p165; replace q165 := eq_true q165) | (go_at_call 84; (with_reducible refine (itoa.calls (wrap64 (Int.tdiv a0 12)) t166 _ A5.out).mono ?_); rintro e w' ⟨rfl, ⟨nd, rfl⟩⟩; (try first | exact ⟨rfl, _, World.drewN_drewN _ _ _⟩ | exact ⟨rfl, _, Eq.trans (World.drewN_drewN _ _ _) (congrArg (World.drewN _) (Nat.add_assoc _ _ _))⟩))))
    go_ret
    exact ⟨by first | rfl | (simp [errW_none, errW_some] <;> rfl) | (simp only [← hji2]; first | rfl | (simp [errW_none, errW_some] <;> rfl)) | (simp [*, errW_none, errW_some] <;> rfl), bU_ HB⟩
   ·rw [if_neg c6] at H
    exact absurd H (by simp)
  ·rw [if_neg c4] at H
   exact absurd H (by simp)
 ·rw [if_neg c3] at H
  exact absurd H (by simp)
def impl_pitchNamed.l0 : Nat → ByteArray → Int → Option (Int)
 | 0, _, _ => none
 | k + 1, x0, x3 => if x3 ≤ 96 then ((impl_pitchName.f x3).bind fun t167 => (if t167.toList = x0.toList then (some x3) else (impl_pitchNamed.l0 k x0 (wrap64 (x3 + 1))))) else (some 0)
def impl_pitchNamed.f (k : Nat) (a0 : ByteArray) : Option (Int) := impl_pitchNamed.l0 k a0 24
theorem impl_pitchNamed.mono_l : ∀ k, (∀ y0 y1, LeO (impl_pitchNamed.l0 k y0 y1) (impl_pitchNamed.l0 (k + 1) y0 y1))
 | 0 => fun _ _ r h => by simp [impl_pitchNamed.l0] at h
 | k + 1 => by
  have ih0 := impl_pitchNamed.mono_l k
  ·intro y0 y1
   unfold impl_pitchNamed.l0
   exact mo_
theorem impl_pitchNamed.mono : ∀ a0 k, LeO (impl_pitchNamed.f k a0) (impl_pitchNamed.f (k + 1) a0) := by
 intro a0 k;have ih0 := impl_pitchNamed.mono_l k
 unfold impl_pitchNamed.f
 exact mo_
set_option maxHeartbeats 8000000 in
set_option maxRecDepth 100000 in
theorem impl_pitchNamed.calls (k : Nat) (a0 : ByteArray) (r : Int) (w : World) (h : impl_pitchNamed.f k a0 = some r) :
  Calls Tryz.prog 65 #[.string a0] w fun e w' => e = .returned (.int .i64 r) ∧ Below w.heap.size w w' := by
 have HB := M_ (Below.refl w.heap.size w)
 have H : (impl_pitchNamed.l0 k a0 24) = some r := h
 clear h
 have H' := M_ H
 clear H
 go_enter Tryz.func65, Tryz.ntmps65
 go_wp2
 go_loopg [3] k (fun kq v3 w' => ∃ (x3_1 : Int), v3 = .int .i64 x3_1 ∧ Aside0 (impl_pitchNamed.l0 kq a0 x3_1 = some r) ∧ Aside0 (kq ≤ k) ∧ Aside0 (Below w.heap.size w w'))
 case atStart => exact ⟨(24), eD_, H', ⟨Nat.le_refl _⟩, ⟨bU_ HB⟩⟩
 case round =>
  clear H';obtain ⟨x3_1, rfl, HA, HK1, HB⟩ := hrel
  cases gk with
  | zero => exact absurd HA.out (by simp [impl_pitchNamed.l0])
  | succ k1 =>
   have H := HA.out;clear HA;simp only [impl_pitchNamed.l0] at H
   by_cases c2 : x3_1 ≤ 96
   ·rw [if_pos c2] at H
    have c2b0 : decide (x3_1 ≤ 96) = true := decide_eq_true c2
    clear c2;replace H := Option.bind_eq_some_iff.mp H;obtain ⟨t167, A30, H⟩ := H;(try dsimp only at H);have A3 := M_ A30;clear A30
    by_cases c4 : t167.toList = a0.toList
    focus
     rw [if_pos c4] at H
     have c4b0 : (t167.toList == a0.toList) = true := beq_iff_eq.mpr c4
     have c4b1 : (t167.toList != a0.toList) = false := bne_eq_false_iff_eq.mpr c4
     clear c4;obtain rfl := Option.some.inj H
    rotate_left
    focus
     rw [if_neg c4] at H
     have c4b0 : (t167.toList == a0.toList) = false := beq_eq_false_iff_ne.mpr c4
     have c4b1 : (t167.toList != a0.toList) = true := bne_iff_ne.mpr c4
     have H' := M_ H
     clear H
    rotate_left
    all_goals
     go_wp2_with (first | ((with_reducible refine gc_ 55 ?_); refine gM_ (some 9) Tryz.func55 #[.int .i64 x3_1] ?_; (with_reducible refine (impl_pitchName.calls x3_1 t167 _ A3.out).mono ?_); rintro e w5 ⟨rfl, hb⟩; refine ⟨_, rfl, ?_⟩; replace HB := M_ (bS_ HB hb); clear hb))
    ·go_ret
     exact ⟨eR_, bU_ HB⟩
    ·go_roundg k1
     case measure => have := HK1.out; omega
     case rel => exact ⟨(wrap64 (x3_1 + 1)), eD_, H', ⟨by have := HK1.out; omega⟩, ⟨bU_ HB⟩⟩
   ·rw [if_neg c2] at H
    have c2b0 : decide (x3_1 ≤ 96) = false := decide_eq_false c2
    clear c2;obtain rfl := Option.some.inj H
    go_wp2
    go_ret
    exact ⟨eR_, bU_ HB⟩
mutual
def impl_ParseScore.j0 : Nat → List ByteArray → Bool → Option ((List (S31)) × Bool)
 | 0, _, _ => none
 | k + 1, x4, x25 => if x25 = true then (some (([] : List (S31)), false)) else (impl_ParseScore.l0 k (([] : List (S31))) x4 (x4.length : Int) 0)
def impl_ParseScore.l0 : Nat → List (S31) → List ByteArray → Int → Int → Option ((List (S31)) × Bool)
 | 0, _, _, _, _ => none
 | k + 1, x6, x27, x28, x29 => if x29 < x28 then (if 0 ≤ x29 then (if x29 < (x27.length : Int) then ((strings_Cut.f (rdOf ByteArray.empty x27 x29) (⟨#[32]⟩ : ByteArray)).bind fun bt180 => ((impl_numberLine.f k bt180.2.1 2).bind fun bt183 => (if bt180.2.2 = true then (if bt183.2 = true then ((impl_pitchNamed.f k bt180.1).bind fun t187 => (if 0 < (bt183.1.length : Int) then (if 1 < (bt183.1.length : Int) then (if x6.length < 5864062014805 then (impl_ParseScore.l0 k (x6 ++ [(⟨t187, rd bt183.1 0, rd bt183.1 1⟩ : S31)]) x27 x28 (wrap64 (x29 + 1))) else (none)) else (none)) else (none))) else (some (([] : List (S31)), false))) else (some (([] : List (S31)), false))))) else (none)) else (none)) else ((impl_scoreOf.f k x6).bind fun bt175 => (some (bt175.1, bt175.2)))
end
def impl_ParseScore.f (k : Nat) (a0 : ByteArray) : Option ((List (S31)) × Bool) := (impl_textLines.f a0).bind fun bt168 => (if bt168.2 = true then (impl_ParseScore.j0 k bt168.1 (decide ((bt168.1.length : Int) > 30))) else (impl_ParseScore.j0 k bt168.1 true))
theorem impl_ParseScore.mono_l : ∀ k, (∀ y0 y1, LeO (impl_ParseScore.j0 k y0 y1) (impl_ParseScore.j0 (k + 1) y0 y1)) ∧ (∀ y0 y1 y2 y3, LeO (impl_ParseScore.l0 k y0 y1 y2 y3) (impl_ParseScore.l0 (k + 1) y0 y1 y2 y3))
 | 0 => ⟨fun _ _ r h => by simp [impl_ParseScore.j0] at h, fun _ _ _ _ r h => by simp [impl_ParseScore.l0] at h⟩
 | k + 1 => by
  obtain ⟨ih0, ih1⟩ := impl_ParseScore.mono_l k;refine ⟨?_, ?_⟩
  ·intro y0 y1
   unfold impl_ParseScore.j0
   have m0_ := @impl_numberLine.mono;have m1_ := @impl_pitchNamed.mono;have m2_ := @impl_scoreOf.mono;exact mo_
  ·intro y0 y1 y2 y3
   unfold impl_ParseScore.l0
   have m0_ := @impl_numberLine.mono;have m1_ := @impl_pitchNamed.mono;have m2_ := @impl_scoreOf.mono;exact mo_
theorem impl_ParseScore.mono : ∀ a0 k, LeO (impl_ParseScore.f k a0) (impl_ParseScore.f (k + 1) a0) := by
 intro a0 k;obtain ⟨ih0, ih1⟩ := impl_ParseScore.mono_l k
 unfold impl_ParseScore.f
 have m0_ := @impl_numberLine.mono;have m1_ := @impl_pitchNamed.mono;have m2_ := @impl_scoreOf.mono;exact mo_
def impl_ParseScore.T12 : Bool × List (List Nat × List Nat) := (true, [([], []), ([], []), ([1], [1]), ([], []), ([3], [3]), ([4], [4]), ([], []), ([6], [6]), ([7], [7]), ([2, 5, 8], [2, 5, 8]), ([9], [9]), ([0, 10, 2], [0, 10]), ([11, 11, 0, 1, 2, 3, 4, 5, 6, 7, 8, 9, 10, 11], [0, 11])])
def impl_ParseScore.B12 : List Nat := [0, 0, 2, 0, 8, 24, 0, 64, 192, 510, 1022, 2047, 4095]
theorem impl_ParseScore.tab12 : rtab .any (opsOf Tryz.f22 12) = impl_ParseScore.T12 := by kernel_rfl
theorem impl_ParseScore.bits12 : waitsOk impl_ParseScore.T12.2 impl_ParseScore.B12 = true := by kernel_rfl
set_option maxHeartbeats 8000000 in
set_option maxRecDepth 100000 in
theorem impl_ParseScore.calls (k : Nat) (a0 : ByteArray) (r1 : List (S31)) (r2 : Bool) (w : World) (hM : ∃ m, w.cell? ⟨0, 0, none⟩ = some (.int .i64 m)) (h : impl_ParseScore.f k a0 = some (r1, r2)) :
  Calls Tryz.prog 22 #[.string a0] w fun e w' => ∃ v0_ : Value, e = .returned (.tuple #[v0_, .bool r2]) ∧ Kd.R k31 31 w' w.heap.size (fun _ => True) v0_ r1 ∧ Below w.heap.size w w' := by
 have hu31 := Tryz.underlying31;have HM := M_ hM;clear hM;have HB := M_ (Below.refl w.heap.size w)
 have H : ((impl_textLines.f a0).bind fun bt168 => (if bt168.2 = true then (impl_ParseScore.j0 k bt168.1 (decide ((bt168.1.length : Int) > 30))) else (impl_ParseScore.j0 k bt168.1 true))) = some (r1, r2) := h
 clear h;replace H := Option.bind_eq_some_iff.mp H;obtain ⟨⟨t168, t169⟩, A20, H⟩ := H;(try dsimp only at H);have A2 := M_ A20;clear A20;have HC3 := M_ H;clear H
 go_enter Tryz.func22, Tryz.ntmps22
 go_upto_region 2 with (first | ((with_reducible refine gc_ 62 ?_); refine gM_ (some 16) Tryz.func62 #[.string a0] ?_; (with_reducible refine (impl_textLines.calls a0 t168 t169 _ (someInt_ HM.out (bU_ HB)) A2.out).mono ?_); rintro e w4 ⟨v170, rfl, ho0, hb⟩; refine ⟨_, rfl, ?_⟩; have HO171 := M_ (Kd.R_lower ho0 (bZ_ HB)); replace HB := M_ (bS_ HB hb); clear hb ho0))
 (try simp only [Act.put, la_, lb_, lc_])
 go_cut [25] (fun v25 wc => ∃ (kq : Nat) (x25_2 : Bool), v25 = .bool x25_2 ∧ Aside0 (impl_ParseScore.j0 kq t168 x25_2 = some (r1, r2)) ∧ Aside0 (kq ≤ k) ∧ Aside0 (Kd.R Kd.string 9 wc w.heap.size (fun _ => True) v170 t168) ∧ Aside0 (Below w.heap.size w wc))
 case first =>
  have H := HC3.out;clear HC3
  by_cases c5 : t169 = true
  ·subst c5
   rw [if_pos rfl] at H
   have H' := M_ H
   clear H;obtain ⟨Ao6, co6, eo6⟩ := Kd.R_slice HO171.out;subst eo6
   go_wp2
   go_meet
   case rel => exact ⟨_, (decide ((t168.length : Int) > 30)), eD_, H', ⟨by first | omega | exact Nat.le_refl _⟩, ⟨rU_ HO171.out⟩, ⟨bU_ HB⟩⟩
  ·replace c5 := Bool.eq_false_iff.mpr c5
   subst c5
   rw [if_neg (show ¬ (false = true) by decide)] at H
   have H' := M_ H
   clear H
   go_wp2
   go_meet
   case rel => exact ⟨_, (true), eD_, H', ⟨by first | omega | exact Nat.le_refl _⟩, ⟨rU_ HO171.out⟩, ⟨bU_ HB⟩⟩
 case rest =>
  clear HC3;obtain ⟨kq, x25_2, rfl, HA, HJ2, HO_4, HB⟩ := hcut
  cases kq with
  | zero => exact absurd HA.out (by simp [impl_ParseScore.j0])
  | succ kj2 =>
   have H := HA.out;clear HA;simp only [impl_ParseScore.j0] at H
   by_cases c7 : x25_2 = true
   focus
    subst c7
    rw [if_pos rfl] at H
    simp only [Option.some.injEq, Prod.mk.injEq] at H;obtain ⟨rfl, rfl⟩ := H
   rotate_left
   focus
    replace c7 := Bool.eq_false_iff.mpr c7
    subst c7
    rw [if_neg (show ¬ (false = true) by decide)] at H
    obtain ⟨y172, hy172⟩ : ∃ y_ : List (S31), y_ = (([] : List (S31))) := ⟨_, rfl⟩
    replace H : (impl_ParseScore.l0 kj2 y172 t168 (t168.length : Int) 0) = some (r1, r2) := by first | (rw [hy172]; with_reducible exact H) | (have H2_ := (Option.bind_some _ _).symm.trans H; rw [hy172]; with_reducible exact H2_) | (have H2_ := (Option.bind_some _ _).symm.trans H; with_reducible exact H2_) | with_reducible exact H | (rw [hy172]; exact H) | exact H
    have Ny172 := M_ hy172;clear hy172
    have H' := M_ H
    clear H
   rotate_left
   all_goals
    go_wp2_with (first | ((with_reducible refine gate_dst (N := 26) rfl ?_); (try (refine gate_guard (by rfl) ?_; dsimp only)); refine lt_ k31 31 (N := 26) (([] : List (S31))) [] (Reps.none _ _) ?_; intro v173 w8 ho9 hb hg_ hnew_; clear hg_ hnew_; replace ho9 := rN_ Ny172 ho9; replace HO_4 := M_ (rB_ HO_4 hb); have HO174 := M_ (Kd.R_lower ho9 (bZ_ HB)); replace HB := M_ (bS_ HB hb); clear hb ho9; obtain ⟨Ao10, co10, eo10⟩ := Kd.R_slice HO_4.out; subst eo10))
   ·go_ret2
    exact ⟨_, eR_, by first | exact Kd.R_nil _ _ _ _ _ | exact Kd.N_nil _ _ _ _ _ | exact Kd.V_nil _ _ _ _ _ | exact Kd.Q_nil _ _ _ _ _ | exact Kd.S_nil _ _ _ _ _, bU_ HB⟩
   ·go_loopg [6, 29] kj2 (fun kq v6 v29 w' => ∃ (x6_2 : List (S31)) (x29_2 : Int), v29 = .int .i64 x29_2 ∧ Aside0 (impl_ParseScore.l0 kq x6_2 t168 (t168.length : Int) x29_2 = some (r1, r2)) ∧ Aside0 (kq ≤ kj2) ∧ Aside0 (Kd.R k31 31 w' w.heap.size (fun _ => True) v6 x6_2) ∧ Aside0 (Kd.R Kd.string 9 w' w.heap.size (fun _ => True) (.slice Ao10 t168.length co10) t168) ∧ Aside0 (Below w.heap.size w w'))
    case atStart => exact ⟨(y172), (0), eD_, H', ⟨Nat.le_refl _⟩, ⟨rU_ HO174.out⟩, ⟨rU_ HO_4.out⟩, ⟨bU_ HB⟩⟩
    case round =>
     clear H';obtain ⟨x6_2, x29_2, rfl, HA, HK2, HO_6, HO_27, HB⟩ := hrel
     cases gk with
     | zero => exact absurd HA.out (by simp [impl_ParseScore.l0])
     | succ k2 =>
      have H := HA.out;clear HA;simp only [impl_ParseScore.l0] at H
      by_cases c11 : x29_2 < (t168.length : Int)
      ·rw [if_pos c11] at H
       have c11b0 : decide (x29_2 < (t168.length : Int)) = true := decide_eq_true c11
       clear c11
       by_cases c12 : 0 ≤ x29_2
       ·rw [if_pos c12] at H
        have c12b0 : decide (0 ≤ x29_2) = true := decide_eq_true c12
        clear c12
        by_cases c13 : x29_2 < (t168.length : Int)
        ·rw [if_pos c13] at H
         have c13b0 : decide (x29_2 < (t168.length : Int)) = true := decide_eq_true c13
         clear c13;replace H := Option.bind_eq_some_iff.mp H;obtain ⟨⟨t180, t181, t182⟩, A140, H⟩ := H;(try dsimp only at H);have A14 := M_ A140;clear A140;replace H := Option.bind_eq_some_iff.mp H;obtain ⟨⟨t183, t184⟩, A150, H⟩ := H;(try dsimp only at H);have A15 := M_ A150;clear A150
         by_cases c16 : t182 = true
         ·subst c16
          rw [if_pos rfl] at H
          by_cases c17 : t184 = true
          ·subst c17
           rw [if_pos rfl] at H
           replace H := Option.bind_eq_some_iff.mp H;obtain ⟨t187, A180, H⟩ := H;(try dsimp only at H);have A18 := M_ A180;clear A180
           by_cases c19 : 0 < (t183.length : Int)
           ·rw [if_pos c19] at H
            have c19b0 : decide (0 < (t183.length : Int)) = true := decide_eq_true c19
            have c19b1 : decide (0 < t183.length) = true := decide_eq_true (by omega)
            clear c19
            by_cases c20 : 1 < (t183.length : Int)
            ·rw [if_pos c20] at H
             have c20b0 : decide (1 < (t183.length : Int)) = true := decide_eq_true c20
             have c20b1 : decide (1 < t183.length) = true := decide_eq_true (by omega)
             clear c20
             by_cases c21 : x6_2.length < 5864062014805
             ·rw [if_pos c21] at H
              have LMc21 := M_ c21;clear c21;obtain ⟨y190, hy190⟩ : ∃ y_ : List (S31), y_ = (x6_2 ++ [(⟨t187, rd t183 0, rd t183 1⟩ : S31)]) := ⟨_, rfl⟩
              replace H : (impl_ParseScore.l0 k2 y190 t168 (t168.length : Int) (wrap64 (x29_2 + 1))) = some (r1, r2) := by first | (rw [hy190]; with_reducible exact H) | (have H2_ := (Option.bind_some _ _).symm.trans H; rw [hy190]; with_reducible exact H2_) | (have H2_ := (Option.bind_some _ _).symm.trans H; with_reducible exact H2_) | with_reducible exact H | (rw [hy190]; exact H) | exact H
              have Ny190 := M_ hy190;clear hy190
              have H' := M_ H
              clear H
              have p179 : 0 ≤ (x29_2 : Int) := dT_
              have q179 : x29_2 < (t168.length : Int) := dT_
              obtain ⟨ad179, e179, hx179_0⟩ := Kd.at_string (Kd.R_reads' HO_27.out).2.2 x29_2 p179 q179;cases e179;replace p179 := eq_true p179;replace q179 := eq_true q179
              try go_wp2_with (first | ((with_reducible refine gc_ 63 ?_); refine gM_ (some 35) Tryz.func63 #[.string (rdOf ByteArray.empty t168 x29_2), .string (⟨#[32]⟩ : ByteArray)] ?_; (with_reducible refine (strings_Cut.calls (rdOf ByteArray.empty t168 x29_2) (⟨#[32]⟩ : ByteArray) t180 t181 true _ (someInt_ HM.out (bU_ HB)) A14.out).mono ?_); rintro e w22 ⟨rfl, hb⟩; refine ⟨_, rfl, ?_⟩; replace HO_6 := M_ (rB_ HO_6 hb); replace HO_27 := M_ (rB_ HO_27 hb); replace HB := M_ (bS_ HB hb); clear hb) | ((with_reducible refine gc_ 64 ?_); refine gM_ (some 41) Tryz.func64 #[.string t181, .int .i64 2] ?_; (with_reducible refine (impl_numberLine.calls k2 t181 2 t183 true _ (someInt_ HM.out (bU_ HB)) A15.out).mono ?_); rintro e w23 ⟨v185, rfl, ho0, hb⟩; refine ⟨_, rfl, ?_⟩; replace HO_6 := M_ (rB_ HO_6 hb); replace HO_27 := M_ (rB_ HO_27 hb); have HO186 := M_ (Kd.R_lower ho0 (bZ_ HB)); replace HB := M_ (bS_ HB hb); clear hb ho0))
              replace HO_6 := M_ (rd_ HO_6.out); replace HO_27 := M_ (rd_ HO_27.out); replace HO186 := M_ (rd_ HO186.out); replace HB := M_ (b1_ HB.out);obtain ⟨Ao25, co25, eo25⟩ := Kd.R_slice HO186.out
              (first | subst eo25 | (injection eo25 with f1_ f2_ f3_; have f4_ := f1_.symm; have f5_ := f3_.symm; clear f1_ f2_ f3_; subst f4_; subst f5_))
              have p188 : 0 ≤ (0 : Int) := (by omega)
              have q188 : 0 < (t183.length : Int) := dT_
              obtain ⟨ad188, e188, hx188_0⟩ := Kd.at_int (Kd.R_reads' HO186.out).2.2 0 p188 q188;cases e188
              have qi188 : (0 < t183.length) = True := eq_true (by omega)
              (try rw [show ((0 : Int)).toNat = 0 from rfl] at hx188_0)
              (try rw [Addr.add_zero'] at hx188_0)
              replace p188 := eq_true p188;replace q188 := eq_true q188
              have p189 : 0 ≤ (1 : Int) := (by omega)
              have q189 : 1 < (t183.length : Int) := dT_
              obtain ⟨ad189, e189, hx189_0⟩ := Kd.at_int (Kd.R_reads' HO186.out).2.2 1 p189 q189;obtain rfl : ad188 = ad189 := (by injection e189)
              (try simp only [show (1 : Int).toNat = 1 from rfl, Nat.reduceMul, Nat.reduceEqDiff, Go.Addr.add, ↓reduceIte] at hx189_0)
              have qi189 : (1 < t183.length) = True := eq_true (by omega)
              (try rw [show ((1 : Int)).toNat = 1 from rfl] at hx189_0)
              replace p189 := eq_true p189;replace q189 := eq_true q189;refine start_ (n := 13) (S := fun w' => w'.cell? ad188 = some (.int .i64 (rd t183 0)) ∧ w'.cell? ⟨ad188.block, ad188.off + 1, none⟩ = some (.int .i64 (rd t183 1))) (ds := [10, 11]) #[F,F,F,F,F,F,F,F,F,F,F,F,F] (by kernel_rfl) rfl rfl ⟨hx188_0, hx189_0⟩ (fun hHeld => ?_); refine with_tabW impl_ParseScore.tab12 impl_ParseScore.bits12 (fun HT_ HW_ => ?_);generalize w23.drew = w24 at HO_6 HO_27 HO186 HB hx188_0 hx189_0 hHeld ⊢;refine pR_ (i := 0) (N := some 50) #[T,F,F,F,F,F,F,F,F,F,F,F,F] ?_;refine pR_ (i := 1) (N := some 51) #[T,T,F,F,F,F,F,F,F,F,F,F,F] ?_;refine pR_ (i := 3) (N := some 53) #[T,T,F,T,F,F,F,F,F,F,F,F,F] ?_;refine pR_ (i := 4) (N := some 54) #[T,T,F,T,T,F,F,F,F,F,F,F,F] ?_;refine pR_ (i := 6) (N := some 56) #[T,T,F,T,T,F,T,F,F,F,F,F,F] ?_;refine pR_ (i := 7) (N := some 57) #[T,T,F,T,T,F,T,T,F,F,F,F,F] ?_;refine take_ (i := 5) (N := some 55) (v := ?_) (a' := ?_) #[T,T,F,T,T,T,T,T,F,F,F,F,F] rfl rfl (take_ofW HT_.out HW_.out (by kernel_rfl)) (fun _ _ _ h => h) (Or.inl ⟨by rfl, ?_⟩) hHeld ?_ ?_;rotate_left
              ·rintro w' ⟨s0, s1⟩
               go_simp;with_reducible rfl
              rotate_left
              ·simp only [Act.put, la_, lb_, lc_, i64_w, i32_w]
               rfl
              refine take_ (i := 8) (N := some 58) (v := ?_) (a' := ?_) #[T,T,F,T,T,T,T,T,T,F,F,F,F] rfl rfl (take_ofW HT_.out HW_.out (by kernel_rfl)) (fun _ _ _ h => h) (Or.inl ⟨by rfl, ?_⟩) hHeld ?_ ?_;rotate_left
              ·rintro w' ⟨s0, s1⟩
               go_simp;with_reducible rfl
              rotate_left
              ·simp only [Act.put, la_, lb_, lc_, i64_w, i32_w]
               rfl
              refine one_ (i := 2) (N := some 52) #[T,T,T,T,T,T,T,T,T,F,F,F,F] rfl rfl (one_of HT_.out (by kernel_rfl)) (by decide) (fun K hK => ?_);refine gS_ Tryz.func65 #[.string t180] ?_
              with_reducible refine (impl_pitchNamed.calls k2 t180 t187 _ A18.out).mono ?_
              rintro e w26 ⟨rfl, hb⟩;have HS0_ := (hb.cell (World.block_lt_of_cell? _ _ (hHeld.1))).trans (hHeld.1);have HS1_ := (hb.cell (World.block_lt_of_cell? _ _ (hHeld.2))).trans (hHeld.2);refine ⟨_, rfl, ?_⟩;replace HO_6 := M_ (rB_ HO_6 hb); replace HO_27 := M_ (rB_ HO_27 hb); replace HO186 := M_ (rB_ HO186 hb); replace HB := M_ (bS_ HB hb);clear hb;refine hK.out _ _ ⟨HS0_, HS1_⟩ (fun hHeld => ?_);clear hK K;refine nM_ (some 52) ?_;refine pR_ (i := 9) (N := some 59) #[T,T,T,T,T,T,T,T,T,T,F,F,F] ?_;refine last_ (i := 10) (N := some 60) #[T,T,T,T,T,T,T,T,T,T,T,F,F] rfl rfl (one_of HT_.out (by kernel_rfl)) (by decide) (fun K hK => ?_);refine value_ (w1 := ?_) (v := ?_) (by rfl) rfl ?_ ?_
              rotate_left 2
              ·go_simp
               constructor
               ·rfl
               ·rfl
              refine hK.out _ _ ?_;clear hK K;refine nM_ (some 60) ?_;refine last_ (i := 11) (N := some 61) #[T,T,T,T,T,T,T,T,T,T,T,T,F] rfl rfl (one_of HT_.out (by kernel_rfl)) (by decide) (fun K hK => ?_);refine Kd.R_append_step k31 (w0 := w) w.heap.size (by rfl) (.tmp 50) (.tmp 60) 24 31 (.agg #[(.int .i64 0), (.int .i64 0), (.int .i64 0)]) 24 rfl Tryz.underlying24 info31 rfl (by decide) (by omega) u6 x6_2 (⟨t187, rd t183 0, rd t183 1⟩ : S31) [.int .i64 t187, .int .i64 (rd t183 0), .int .i64 (rd t183 1)] (fun _ => True) (fun _ => False) rfl rfl ?aP (fun _ hk => hk.elim) ?aF ?aO ?aB ?aS ?aL ?_
              (case aP => exact k31_mkM _ _ _ (⟨t187, rd t183 0, rd t183 1⟩ : S31))
              (case aB => exact (bU_ HB))
              (case aF => exact (fun _ _ => trivial))
              (case aO => exact (rU_ HO_6.out))
              (case aS => exact (bZ_ HB))
              (case aL => have := LMc21.out; omega)
              intro v191 w27 ho hb hg hat
              rw [← Ny190.out] at ho
              replace HO_27 := M_ (Kd.R_over' (rU_ HO_27.out) (Kd.R_typed (rU_ HO_6.out)) (by decide) hg); replace HO186 := M_ (Kd.R_over' (rU_ HO186.out) (Kd.R_typed (rU_ HO_6.out)) (by decide) hg); replace HB := M_ (hb); have HO192 := M_ (ho); clear HO_6;clear ho hb hg hat;refine hK.out _ _ ?_;clear hK K;refine nM_ (some 61) ?_;refine pR_ (i := 12) (N := some 6) #[T,T,T,T,T,T,T,T,T,T,T,T,T] ?_;refine done_ (done_of HT_.out (by kernel_rfl)) ?_
              try go_wp2
              go_roundg k2
              case measure => have := HJ2.out; have := HK2.out; omega
              case rel => exact ⟨(y190), (wrap64 (x29_2 + 1)), eD_, H', ⟨by have := HJ2.out; have := HK2.out; omega⟩, ⟨rU_ HO192.out⟩, ⟨rU_ HO_27.out⟩, ⟨bU_ HB⟩⟩
             ·rw [if_neg c21] at H
              exact absurd H (by simp)
            ·rw [if_neg c20] at H
             exact absurd H (by simp)
           ·rw [if_neg c19] at H
            exact absurd H (by simp)
          ·replace c17 := Bool.eq_false_iff.mpr c17
           subst c17
           rw [if_neg (show ¬ (false = true) by decide)] at H
           simp only [Option.some.injEq, Prod.mk.injEq] at H;obtain ⟨rfl, rfl⟩ := H
           have p179 : 0 ≤ (x29_2 : Int) := dT_
           have q179 : x29_2 < (t168.length : Int) := dT_
           obtain ⟨ad179, e179, hx179_0⟩ := Kd.at_string (Kd.R_reads' HO_27.out).2.2 x29_2 p179 q179;cases e179;replace p179 := eq_true p179;replace q179 := eq_true q179
           go_wp2_with (first | ((with_reducible refine gc_ 63 ?_); refine gM_ (some 35) Tryz.func63 #[.string (rdOf ByteArray.empty t168 x29_2), .string (⟨#[32]⟩ : ByteArray)] ?_; (with_reducible refine (strings_Cut.calls (rdOf ByteArray.empty t168 x29_2) (⟨#[32]⟩ : ByteArray) t180 t181 true _ (someInt_ HM.out (bU_ HB)) A14.out).mono ?_); rintro e w28 ⟨rfl, hb⟩; refine ⟨_, rfl, ?_⟩; replace HO_6 := M_ (rB_ HO_6 hb); replace HO_27 := M_ (rB_ HO_27 hb); replace HB := M_ (bS_ HB hb); clear hb) | ((with_reducible refine gc_ 64 ?_); refine gM_ (some 41) Tryz.func64 #[.string t181, .int .i64 2] ?_; (with_reducible refine (impl_numberLine.calls k2 t181 2 t183 false _ (someInt_ HM.out (bU_ HB)) A15.out).mono ?_); rintro e w29 ⟨v185, rfl, ho0, hb⟩; refine ⟨_, rfl, ?_⟩; replace HO_6 := M_ (rB_ HO_6 hb); replace HO_27 := M_ (rB_ HO_27 hb); have HO186 := M_ (Kd.R_lower ho0 (bZ_ HB)); replace HB := M_ (bS_ HB hb); clear hb ho0))
           go_ret2
           exact ⟨_, eR_, by first | exact Kd.R_nil _ _ _ _ _ | exact Kd.N_nil _ _ _ _ _ | exact Kd.V_nil _ _ _ _ _ | exact Kd.Q_nil _ _ _ _ _ | exact Kd.S_nil _ _ _ _ _, bU_ HB⟩
         ·replace c16 := Bool.eq_false_iff.mpr c16
          subst c16
          rw [if_neg (show ¬ (false = true) by decide)] at H
          simp only [Option.some.injEq, Prod.mk.injEq] at H;obtain ⟨rfl, rfl⟩ := H
          have p179 : 0 ≤ (x29_2 : Int) := dT_
          have q179 : x29_2 < (t168.length : Int) := dT_
          obtain ⟨ad179, e179, hx179_0⟩ := Kd.at_string (Kd.R_reads' HO_27.out).2.2 x29_2 p179 q179;cases e179;replace p179 := eq_true p179;replace q179 := eq_true q179
          go_wp2_with (first | ((with_reducible refine gc_ 63 ?_); refine gM_ (some 35) Tryz.func63 #[.string (rdOf ByteArray.empty t168 x29_2), .string (⟨#[32]⟩ : ByteArray)] ?_; (with_reducible refine (strings_Cut.calls (rdOf ByteArray.empty t168 x29_2) (⟨#[32]⟩ : ByteArray) t180 t181 false _ (someInt_ HM.out (bU_ HB)) A14.out).mono ?_); rintro e w30 ⟨rfl, hb⟩; refine ⟨_, rfl, ?_⟩; replace HO_6 := M_ (rB_ HO_6 hb); replace HO_27 := M_ (rB_ HO_27 hb); replace HB := M_ (bS_ HB hb); clear hb) | ((with_reducible refine gc_ 64 ?_); refine gM_ (some 41) Tryz.func64 #[.string t181, .int .i64 2] ?_; (with_reducible refine (impl_numberLine.calls k2 t181 2 t183 t184 _ (someInt_ HM.out (bU_ HB)) A15.out).mono ?_); rintro e w31 ⟨v185, rfl, ho0, hb⟩; refine ⟨_, rfl, ?_⟩; replace HO_6 := M_ (rB_ HO_6 hb); replace HO_27 := M_ (rB_ HO_27 hb); have HO186 := M_ (Kd.R_lower ho0 (bZ_ HB)); replace HB := M_ (bS_ HB hb); clear hb ho0))
          go_ret2
          exact ⟨_, eR_, by first | exact Kd.R_nil _ _ _ _ _ | exact Kd.N_nil _ _ _ _ _ | exact Kd.V_nil _ _ _ _ _ | exact Kd.Q_nil _ _ _ _ _ | exact Kd.S_nil _ _ _ _ _, bU_ HB⟩
        ·rw [if_neg c13] at H
         exact absurd H (by simp)
       ·rw [if_neg c12] at H
        exact absurd H (by simp)
      ·rw [if_neg c11] at H
       have c11b0 : decide (x29_2 < (t168.length : Int)) = false := decide_eq_false c11
       clear c11;replace H := Option.bind_eq_some_iff.mp H;obtain ⟨⟨t175, t178⟩, A320, H⟩ := H;replace H : (some (t175, t178)) = some (r1, r2) := H;have A32 := M_ A320;clear A320;simp only [Option.some.injEq, Prod.mk.injEq] at H;obtain ⟨rfl, rfl⟩ := H;obtain ⟨Ao33, co33, eo33⟩ := Kd.R_slice HO_6.out;subst eo33
       go_wp2_with (first | ((with_reducible refine gc_ 43 ?_); refine gM_ (some 64) Tryz.func43 #[.slice Ao33 x6_2.length co33] ?_; (with_reducible refine (impl_scoreOf.calls k2 (fun k_ => some k_ = (.slice Ao33 x6_2.length co33 : Value).ownBlock) (.slice Ao33 x6_2.length co33) x6_2 t175 t178 w _ ?side1 ?side2 A32.out).mono ?_); (case side1 => exact bU_ HB); (case side2 => exact Kd.R_tight rfl HO_6.out); rintro e w34 ⟨v176, rfl, ho0, hb, hkp⟩; refine ⟨_, rfl, ?_⟩; replace HO_27 := M_ (rm_ (ok' := fun k_ => True) (Kd.R_keptB ((Kd.R_apart' HO_27.out (Kd.R_typed HO_6.out) (by decide))) hkp (fun k_ hk_ hs_ => (hk_.2) hs_)) (fun k_ hk_ => trivial)); have HO177 := M_ (rm_ (ok' := fun k_ => True) ho0 (fun k_ hk_ => trivial)); replace HB := M_ (hb); clear HO_6; (try clear hb); (try clear hkp); (try clear ho0)))
       go_ret2
       exact ⟨_, eR_, rU_ HO177.out, bU_ HB⟩
end Go.Proofs.YtfpfjnmjekjnhaaGreatDoor.PFnScores
