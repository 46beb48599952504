-- by wip/xprint.py, over the kit's printer
import Derived.Test.YtpkklbjdhmpjnaaGreatDoorPFnInstrumentsx0
import Derived.Test.YtpkklbjdhmpjnaaGreatDoorPFnInstrumentsx3
namespace Go.Proofs.YtpkklbjdhmpjnaaGreatDoor.PFnInstruments
open Go.RowKit Go.Proofs.YtpkklbjdhmpjnaaGreatDoorW.PrintWords Go.Proofs.YtpkklbjdhmpjnaaGreatDoorW.PrintLast Go.Proofs.YtpkklbjdhmpjnaaGreatDoorW.PrintMore
attribute [local go_sem] max2_int min2_int max_two min_two max_three min_three max_four min_four   -- for this text's walks alone
set_option linter.unusedVariables false
set_option linter.unusedSimpArgs false

mutual
def impl_IsInstrument.j0 : Nat → Bool → List Int → Int → Option (Bool)
 | 0, _, _, _ => none
 | k + 1, x24, x250000, x250001 => if x24 = true then (some false) else (impl_IsInstrument.l0 k x250000 (x250000.length : Int) 0 x250000 x250001)
def impl_IsInstrument.l0 : Nat → List Int → Int → Int → List Int → Int → Option (Bool)
 | 0, _, _, _, _, _ => none
 | k + 1, x26, x27, x28, x250000, x250001 => if x28 < x27 then (if 0 ≤ x28 then (if x28 < (x26.length : Int) then ((impl_isPitch.f (rd x26 x28)).bind fun t251 => (if t251 = true then (if x28 > 0 then (if 0 ≤ (wrap64 (x28 - 1)) then (if (wrap64 (x28 - 1)) < (x250000.length : Int) then (if (rd x26 x28) ≤ (rd x250000 (wrap64 (x28 - 1))) then (some false) else (impl_IsInstrument.l0 k x26 x27 (wrap64 (x28 + 1)) x250000 x250001)) else (none)) else (none)) else (impl_IsInstrument.l0 k x26 x27 (wrap64 (x28 + 1)) x250000 x250001)) else (some false))) else (none)) else (none)) else (some true)
end
def impl_IsInstrument.f (k : Nat) (l0_0 : List Int) (a0_1 : Int) : Option (Bool) := if (l0_0.length : Int) < 1 then (impl_IsInstrument.j0 k true l0_0 a0_1) else (if (l0_0.length : Int) > 20 then (impl_IsInstrument.j0 k true l0_0 a0_1) else (if a0_1 < 1 then (impl_IsInstrument.j0 k true l0_0 a0_1) else (impl_IsInstrument.j0 k (decide (a0_1 > 20)) l0_0 a0_1)))
theorem impl_IsInstrument.mono_l : ∀ k, (∀ y0 y1 y2, LeO (impl_IsInstrument.j0 k y0 y1 y2) (impl_IsInstrument.j0 (k + 1) y0 y1 y2)) ∧ (∀ y0 y1 y2 y3 y4, LeO (impl_IsInstrument.l0 k y0 y1 y2 y3 y4) (impl_IsInstrument.l0 (k + 1) y0 y1 y2 y3 y4))
 | 0 => ⟨fun _ _ _ r h => by simp [impl_IsInstrument.j0] at h, fun _ _ _ _ _ r h => by simp [impl_IsInstrument.l0] at h⟩
 | k + 1 => by
  obtain ⟨ih0, ih1⟩ := impl_IsInstrument.mono_l k;refine ⟨?_, ?_⟩
  ·intro y0 y1 y2
   unfold impl_IsInstrument.j0
   exact mo_
  ·intro y0 y1 y2 y3 y4
   unfold impl_IsInstrument.l0
   exact mo_
theorem impl_IsInstrument.mono : ∀ a0 a1 k, LeO (impl_IsInstrument.f k a0 a1) (impl_IsInstrument.f (k + 1) a0 a1) := by
 intro a0 a1 k;obtain ⟨ih0, ih1⟩ := impl_IsInstrument.mono_l k
 unfold impl_IsInstrument.f
 exact mo_
set_option maxHeartbeats 8000000 in
set_option maxRecDepth 100000 in
theorem impl_IsInstrument.calls (k : Nat) (A0_0 : Option Addr) (c0_0 : Nat) (l0_0 : List Int) (a0_1 : Int) (r : Bool) (w : World) (hr0_0 : Kd.C (Kd.int .i64) w A0_0 l0_0.length l0_0) (hc0_0 : l0_0.length ≤ c0_0) (h : impl_IsInstrument.f k l0_0 a0_1 = some r) :
  Calls Tryz.prog 23 #[.agg #[.slice A0_0 l0_0.length c0_0, .int .i64 a0_1]] w fun e w' => e = .returned (.bool r) ∧ Below w.heap.size w w' := by
 have hu25 := Tryz.underlying25;have HR0_0 := M_ hr0_0;have HC0_0 := M_ hc0_0;clear hr0_0 hc0_0;have HB := M_ (Below.refl w.heap.size w)
 have H : (if (l0_0.length : Int) < 1 then (impl_IsInstrument.j0 k true l0_0 a0_1) else (if (l0_0.length : Int) > 20 then (impl_IsInstrument.j0 k true l0_0 a0_1) else (if a0_1 < 1 then (impl_IsInstrument.j0 k true l0_0 a0_1) else (impl_IsInstrument.j0 k (decide (a0_1 > 20)) l0_0 a0_1)))) = some r := h
 clear h;have HC2 := M_ H;clear H
 go_enter Tryz.func23, Tryz.ntmps23
 go_upto_region 1 with (first | ((with_reducible refine gate_dst (N := 1) rfl ?_); (try (refine gate_guard (by rfl) ?_; dsimp only)); refine bx_ (N := 1) (cs := #[.slice A0_0 l0_0.length c0_0, .int .i64 a0_1]) (t := 25) ?_; intro gb249 hg w3 hbox hb; have BK249 := M_ (hbox); have GW249 := M_ (gw_ HB hg); have GE249 := M_ (gw_ HB hg); replace HB := M_ (bS_ HB hb); clear hb hbox hg))
 (try simp only [Act.put, la_, lb_, lc_])
 go_cut [24] (fun v24 wc => ∃ (kq : Nat) (x24_1 : Bool), v24 = .bool x24_1 ∧ Aside0 (impl_IsInstrument.j0 kq x24_1 l0_0 a0_1 = some r) ∧ Aside0 (kq ≤ k) ∧ Aside0 (wc.heap[gb249]? = some (.cells #[(.slice A0_0 l0_0.length c0_0), .int .i64 a0_1] 25 (0, 0))) ∧ Aside0 (Below w.heap.size w wc))
 case first =>
  have H := HC2.out;clear HC2
  by_cases c4 : (l0_0.length : Int) < 1
  ·rw [if_pos c4] at H
   have c4b0 : decide ((l0_0.length : Int) < 1) = true := decide_eq_true c4
   have c4b1 : decide (l0_0.length < 1) = true := decide_eq_true (by omega)
   clear c4
   (first | rw [c4b0] | (simp only [i64_w, i32_w]; rw [c4b0]) | skip)
   have H' := M_ H
   clear H;obtain ⟨hcz5_0, hcz5_1, hfz5_0, hfz5_1⟩ := bq2_ BK249
   go_wp2
   go_meet
   case rel => exact ⟨_, (true), eD_, H', ⟨by first | omega | exact Nat.le_refl _⟩, ⟨kU_ BK249⟩, ⟨bU_ HB⟩⟩
  ·rw [if_neg c4] at H
   have c4b0 : decide ((l0_0.length : Int) < 1) = false := decide_eq_false c4
   have c4b1 : decide (l0_0.length < 1) = false := decide_eq_false (by omega)
   clear c4
   (first | rw [c4b0] | (simp only [i64_w, i32_w]; rw [c4b0]) | skip)
   by_cases c6 : (l0_0.length : Int) > 20
   ·rw [if_pos c6] at H
    have c6b0 : decide (20 < (l0_0.length : Int)) = true := decide_eq_true c6
    have c6b1 : decide (20 < l0_0.length) = true := decide_eq_true (by omega)
    clear c6
    have H' := M_ H
    clear H;obtain ⟨hcz7_0, hcz7_1, hfz7_0, hfz7_1⟩ := bq2_ BK249
    go_wp2
    go_meet
    case rel => exact ⟨_, (true), eD_, H', ⟨by first | omega | exact Nat.le_refl _⟩, ⟨kU_ BK249⟩, ⟨bU_ HB⟩⟩
   ·rw [if_neg c6] at H
    have c6b0 : decide (20 < (l0_0.length : Int)) = false := decide_eq_false c6
    have c6b1 : decide (20 < l0_0.length) = false := decide_eq_false (by omega)
    clear c6
    by_cases c8 : a0_1 < 1
    ·rw [if_pos c8] at H
     have c8b0 : decide (a0_1 < 1) = true := decide_eq_true c8
     clear c8
     have H' := M_ H
     clear H;obtain ⟨hcz9_0, hcz9_1, hfz9_0, hfz9_1⟩ := bq2_ BK249
     go_wp2
     go_meet
     case rel => exact ⟨_, (true), eD_, H', ⟨by first | omega | exact Nat.le_refl _⟩, ⟨kU_ BK249⟩, ⟨bU_ HB⟩⟩
    ·rw [if_neg c8] at H
     have c8b0 : decide (a0_1 < 1) = false := decide_eq_false c8
     clear c8
     have H' := M_ H
     clear H;obtain ⟨hcz10_0, hcz10_1, hfz10_0, hfz10_1⟩ := bq2_ BK249
     go_wp2
     go_meet
     case rel => exact ⟨_, (decide (a0_1 > 20)), eD_, H', ⟨by first | omega | exact Nat.le_refl _⟩, ⟨kU_ BK249⟩, ⟨bU_ HB⟩⟩
 case rest =>
  clear HC2;obtain ⟨kq, x24_1, rfl, HA, HJ1, BK249, HB⟩ := hcut
  cases kq with
  | zero => exact absurd HA.out (by simp [impl_IsInstrument.j0])
  | succ kj1 =>
   have H := HA.out;clear HA;simp only [impl_IsInstrument.j0] at H
   by_cases c11 : x24_1 = true
   ·subst c11
    have H1 : (some false) = some r := by rw [if_pos rfl] at H; exact H
    clear H;have H := H1;clear H1;obtain rfl := Option.some.inj H
    go_wp2
    go_ret
    exact ⟨eR_, bU_ HB⟩
   ·replace c11 := Bool.eq_false_iff.mpr c11
    subst c11
    rw [if_neg (show ¬ (false = true) by decide)] at H
    have H' := M_ H
    clear H;obtain ⟨hcz12_0, hcz12_1, hfz12_0, hfz12_1⟩ := bq2_ BK249
    go_wp2
    go_loopg [28] kj1 (fun kq v28 w' => ∃ (x28_2 : Int), v28 = .int .i64 x28_2 ∧ Aside0 (impl_IsInstrument.l0 kq l0_0 (l0_0.length : Int) x28_2 l0_0 a0_1 = some r) ∧ Aside0 (kq ≤ kj1) ∧ Aside0 (w'.heap[gb249]? = some (.cells #[(.slice A0_0 l0_0.length c0_0), .int .i64 a0_1] 25 (0, 0))) ∧ Aside0 (Below w.heap.size w w'))
    case atStart => exact ⟨(0), eD_, H', ⟨Nat.le_refl _⟩, ⟨kU_ BK249⟩, ⟨bU_ HB⟩⟩
    case round =>
     clear H';obtain ⟨x28_2, rfl, HA, HK2, BK249, HB⟩ := hrel
     cases gk with
     | zero => exact absurd HA.out (by simp [impl_IsInstrument.l0])
     | succ k2 =>
      have H := HA.out;clear HA;simp only [impl_IsInstrument.l0] at H
      by_cases c13 : x28_2 < (l0_0.length : Int)
      ·rw [if_pos c13] at H
       have c13b0 : decide (x28_2 < (l0_0.length : Int)) = true := decide_eq_true c13
       clear c13
       by_cases c14 : 0 ≤ x28_2
       ·rw [if_pos c14] at H
        have c14b0 : decide (0 ≤ x28_2) = true := decide_eq_true c14
        clear c14
        by_cases c15 : x28_2 < (l0_0.length : Int)
        ·rw [if_pos c15] at H
         have c15b0 : decide (x28_2 < (l0_0.length : Int)) = true := decide_eq_true c15
         clear c15;replace H := Option.bind_eq_some_iff.mp H;obtain ⟨t251, A160, H⟩ := H;(try dsimp only at H);have A16 := M_ A160;clear A160
         by_cases c17 : t251 = true
         ·subst c17
          rw [if_pos rfl] at H
          by_cases c18 : x28_2 > 0
          ·rw [if_pos c18] at H
           have c18b0 : decide (0 < x28_2) = true := decide_eq_true c18
           clear c18;obtain ⟨ji19, hji19⟩ : ∃ j_ : Int, (wrap64 (x28_2 - 1)) = j_ := ⟨_, rfl⟩
           replace H : (if 0 ≤ (ji19) then (if (ji19) < (l0_0.length : Int) then (if (rd l0_0 x28_2) ≤ (rd l0_0 (ji19)) then (some false) else (impl_IsInstrument.l0 k2 l0_0 (l0_0.length : Int) (wrap64 (x28_2 + 1)) l0_0 a0_1)) else (none)) else (none)) = some r := by first | (rw [hji19] at H; exact H) | (simp only [hji19] at H ⊢; exact H)
           (try rw [hji19] at A16)
           have hji19w : (IntKind.i64.wrap (x28_2 - 1)) = ji19 := (i64_w _).trans hji19
           by_cases c20 : 0 ≤ (ji19)
           ·rw [if_pos c20] at H
            have c20b0 : decide (0 ≤ (ji19)) = true := decide_eq_true c20
            clear c20
            by_cases c21 : (ji19) < (l0_0.length : Int)
            ·rw [if_pos c21] at H
             have c21b0 : decide ((ji19) < (l0_0.length : Int)) = true := decide_eq_true c21
             clear c21
             by_cases c22 : (rd l0_0 x28_2) ≤ (rd l0_0 (ji19))
             ·rw [if_pos c22] at H
              have c22b0 : decide ((rd l0_0 x28_2) ≤ (rd l0_0 (ji19))) = true := decide_eq_true c22
              clear c22;obtain rfl := Option.some.inj H
              have p250 : 0 ≤ (x28_2 : Int) := dT_
              have q250 : x28_2 < (l0_0.length : Int) := dT_
              obtain ⟨ad250, e250, hx250_0⟩ := Kd.at_int HR0_0.out x28_2 p250 q250;cases e250;replace hx250_0 := (HB.out.cell (World.block_lt_of_cell? w _ hx250_0)).trans hx250_0;replace p250 := eq_true p250;replace q250 := eq_true q250
              go_wp2_with (first | ((with_reducible refine gc_ 30 ?_); refine gM_ (some 34) Tryz.func30 #[.int .i64 (rd l0_0 x28_2)] ?_; (with_reducible refine (impl_isPitch.calls (rd l0_0 x28_2) true _ A16.out).mono ?_); rintro e w' ⟨rfl, ⟨nd, rfl⟩⟩; refine ⟨_, rfl, ?_⟩; obtain ⟨hcz23_0, hcz23_1, hfz23_0, hfz23_1⟩ := bq2_ BK249; have p252 : 0 ≤ ((ji19) : Int) := dT_; have q252 : (ji19) < (l0_0.length : Int) := dT_; obtain ⟨ad252, e252, hx252_0⟩ := Kd.at_int HR0_0.out (ji19) p252 q252; obtain rfl : ad250 = ad252 := (by injection e252); replace hx252_0 := (HB.out.cell (World.block_lt_of_cell? w _ hx252_0)).trans hx252_0; replace p252 := eq_true p252; replace q252 := eq_true q252))
              go_ret
              exact ⟨by first | rfl | (simp [errW_none, errW_some] <;> rfl) | (simp only [← hji19]; first | rfl | (simp [errW_none, errW_some] <;> rfl)) | (simp [*, errW_none, errW_some] <;> rfl), bU_ HB⟩
             ·rw [if_neg c22] at H
              have c22b0 : decide ((rd l0_0 x28_2) ≤ (rd l0_0 (ji19))) = false := decide_eq_false c22
              clear c22
              have H' := M_ H
              clear H
              have p250 : 0 ≤ (x28_2 : Int) := dT_
              have q250 : x28_2 < (l0_0.length : Int) := dT_
              obtain ⟨ad250, e250, hx250_0⟩ := Kd.at_int HR0_0.out x28_2 p250 q250;cases e250;replace hx250_0 := (HB.out.cell (World.block_lt_of_cell? w _ hx250_0)).trans hx250_0;replace p250 := eq_true p250;replace q250 := eq_true q250
              go_wp2_with (first | ((with_reducible refine gc_ 30 ?_); refine gM_ (some 34) Tryz.func30 #[.int .i64 (rd l0_0 x28_2)] ?_; (with_reducible refine (impl_isPitch.calls (rd l0_0 x28_2) true _ A16.out).mono ?_); rintro e w' ⟨rfl, ⟨nd, rfl⟩⟩; refine ⟨_, rfl, ?_⟩; obtain ⟨hcz24_0, hcz24_1, hfz24_0, hfz24_1⟩ := bq2_ BK249; have p252 : 0 ≤ ((ji19) : Int) := dT_; have q252 : (ji19) < (l0_0.length : Int) := dT_; obtain ⟨ad252, e252, hx252_0⟩ := Kd.at_int HR0_0.out (ji19) p252 q252; obtain rfl : ad250 = ad252 := (by injection e252); replace hx252_0 := (HB.out.cell (World.block_lt_of_cell? w _ hx252_0)).trans hx252_0; replace p252 := eq_true p252; replace q252 := eq_true q252))
              go_roundg k2
              case measure => have := HJ1.out; have := HK2.out; omega
              case rel => exact ⟨(wrap64 (x28_2 + 1)), eD_, H', ⟨by have := HJ1.out; have := HK2.out; omega⟩, ⟨kU_ BK249⟩, ⟨bU_ HB⟩⟩
            ·rw [if_neg c21] at H
             exact absurd H (by simp)
           ·rw [if_neg c20] at H
            exact absurd H (by simp)
          ·rw [if_neg c18] at H
           have c18b0 : decide (0 < x28_2) = false := decide_eq_false c18
           clear c18
           have H' := M_ H
           clear H
           have p250 : 0 ≤ (x28_2 : Int) := dT_
           have q250 : x28_2 < (l0_0.length : Int) := dT_
           obtain ⟨ad250, e250, hx250_0⟩ := Kd.at_int HR0_0.out x28_2 p250 q250;cases e250;replace hx250_0 := (HB.out.cell (World.block_lt_of_cell? w _ hx250_0)).trans hx250_0;replace p250 := eq_true p250;replace q250 := eq_true q250
           go_wp2_with (first | ((with_reducible refine gc_ 30 ?_); refine gM_ (some 34) Tryz.func30 #[.int .i64 (rd l0_0 x28_2)] ?_; (with_reducible refine (impl_isPitch.calls (rd l0_0 x28_2) true _ A16.out).mono ?_); rintro e w' ⟨rfl, ⟨nd, rfl⟩⟩; refine ⟨_, rfl, ?_⟩))
           go_roundg k2
           case measure => have := HJ1.out; have := HK2.out; omega
           case rel => exact ⟨(wrap64 (x28_2 + 1)), eD_, H', ⟨by have := HJ1.out; have := HK2.out; omega⟩, ⟨kU_ BK249⟩, ⟨bU_ HB⟩⟩
         ·replace c17 := Bool.eq_false_iff.mpr c17
          subst c17
          rw [if_neg (show ¬ (false = true) by decide)] at H
          obtain rfl := Option.some.inj H
          have p250 : 0 ≤ (x28_2 : Int) := dT_
          have q250 : x28_2 < (l0_0.length : Int) := dT_
          obtain ⟨ad250, e250, hx250_0⟩ := Kd.at_int HR0_0.out x28_2 p250 q250;cases e250;replace hx250_0 := (HB.out.cell (World.block_lt_of_cell? w _ hx250_0)).trans hx250_0;replace p250 := eq_true p250;replace q250 := eq_true q250
          go_wp2_with (first | ((with_reducible refine gc_ 30 ?_); refine gM_ (some 34) Tryz.func30 #[.int .i64 (rd l0_0 x28_2)] ?_; (with_reducible refine (impl_isPitch.calls (rd l0_0 x28_2) false _ A16.out).mono ?_); rintro e w' ⟨rfl, ⟨nd, rfl⟩⟩; refine ⟨_, rfl, ?_⟩))
          go_ret
          exact ⟨eR_, bU_ HB⟩
        ·rw [if_neg c15] at H
         exact absurd H (by simp)
       ·rw [if_neg c14] at H
        exact absurd H (by simp)
      ·rw [if_neg c13] at H
       have c13b0 : decide (x28_2 < (l0_0.length : Int)) = false := decide_eq_false c13
       clear c13;obtain rfl := Option.some.inj H
       go_wp2
       go_ret
       exact ⟨eR_, bU_ HB⟩

-- NOT PRINTED: function 75 (abi_NoEscape)

-- NOT PRINTED: function 68 (strings_Builder_copyCheck)

-- NOT PRINTED: function 51 (strings_Builder_WriteString)

-- NOT PRINTED: function 83 (strconv_small)

-- NOT PRINTED: function 97 (bits_Len64)

-- NOT PRINTED: function 103 (strconv_log10Pow2)

-- NOT PRINTED: function 104 (strconv_bool2_int)

-- NOT PRINTED: function 84 (strconv_numDigits)

-- NOT PRINTED: function 85 (strconv_formatBase10)

-- NOT PRINTED: function 105 (strconv_isPowerOfTwo)

-- NOT PRINTED: function 115 (bits_TrailingZeros32)

-- NOT PRINTED: function 116 (bits_TrailingZeros64)

-- NOT PRINTED: function 106 (bits_TrailingZeros)

-- NOT PRINTED: function 86 (strconv_formatBits)

-- NOT PRINTED: function 76 (strconv_FormatInt)

-- NOT PRINTED: function 69 (strconv_Itoa_69)

-- XNAME strconv_Itoa_54 itoa
-- XSHELF
def itoa.f (a0 : Int) : Option (ByteArray) := if 0 ≤ a0 then (if a0 < 100 then some (⟨(Lib.decDigits a0.toNat).toArray⟩ : ByteArray) else none) else none
theorem itoa.calls (a0 : Int) (r : ByteArray) (w : World) (h : itoa.f a0 = some r) :
  Calls Tryz.prog 54 #[.int .i64 a0] w fun e w' => e = .returned (.string r) ∧ Drawn0 w w' := by
 unfold itoa.f at h
 by_cases h0 : 0 ≤ a0
 case neg => rw [if_neg h0] at h; cases h
 by_cases h1 : a0 < 100
 case neg => rw [if_pos h0, if_neg h1] at h; cases h
 rw [if_pos h0, if_pos h1] at h
 obtain rfl := Option.some.inj h;clear h;obtain ⟨i, rfl⟩ := Int.eq_ofNat_of_zero_le h0;refine (Tryz.strconv_Itoa_small i (by omega) w).mono ?_;rintro e w' ⟨rfl, rfl⟩;exact ⟨by rw [Int.toNat_natCast], Drawn0.refl _⟩

def impl_pitchName.f (a0 : Int) : Option (ByteArray) := (some (([(⟨#[99]⟩ : ByteArray), (⟨#[99, 35]⟩ : ByteArray), (⟨#[100]⟩ : ByteArray), (⟨#[100, 35]⟩ : ByteArray), (⟨#[101]⟩ : ByteArray), (⟨#[102]⟩ : ByteArray), (⟨#[102, 35]⟩ : ByteArray), (⟨#[103]⟩ : ByteArray), (⟨#[103, 35]⟩ : ByteArray), (⟨#[97]⟩ : ByteArray), (⟨#[97, 35]⟩ : ByteArray), (⟨#[98]⟩ : ByteArray)] : List ByteArray) : List ByteArray)).bind fun y253 => (if 0 ≤ (Int.tmod a0 12) then (if (Int.tmod a0 12) < (y253.length : Int) then ((itoa.f (wrap64 (Int.tdiv a0 12))).bind fun t257 => (if (rdOf ByteArray.empty y253 (Int.tmod a0 12)).size + t257.size ≤ 9223372036854775807 then (some ((rdOf ByteArray.empty y253 (Int.tmod a0 12)) ++ t257)) else (none))) else (none)) else (none))
set_option maxHeartbeats 8000000 in
set_option maxRecDepth 100000 in
theorem impl_pitchName.calls (a0 : Int) (r : ByteArray) (w : World) (h : impl_pitchName.f a0 = some r) :
  Calls Tryz.prog 52 #[.int .i64 a0] w fun e w' => e = .returned (.string r) ∧ Below w.heap.size w w' := by
 have HB := M_ (Below.refl w.heap.size w)
 have H : ((some (([(⟨#[99]⟩ : ByteArray), (⟨#[99, 35]⟩ : ByteArray), (⟨#[100]⟩ : ByteArray), (⟨#[100, 35]⟩ : ByteArray), (⟨#[101]⟩ : ByteArray), (⟨#[102]⟩ : ByteArray), (⟨#[102, 35]⟩ : ByteArray), (⟨#[103]⟩ : ByteArray), (⟨#[103, 35]⟩ : ByteArray), (⟨#[97]⟩ : ByteArray), (⟨#[97, 35]⟩ : ByteArray), (⟨#[98]⟩ : ByteArray)] : List ByteArray) : List ByteArray)).bind fun y253 => (if 0 ≤ (Int.tmod a0 12) then (if (Int.tmod a0 12) < (y253.length : Int) then ((itoa.f (wrap64 (Int.tdiv a0 12))).bind fun t257 => (if (rdOf ByteArray.empty y253 (Int.tmod a0 12)).size + t257.size ≤ 9223372036854775807 then (some ((rdOf ByteArray.empty y253 (Int.tmod a0 12)) ++ t257)) else (none))) else (none)) else (none))) = some r := h
 clear h;obtain ⟨y253, hy253, H⟩ := ob_ H;(try dsimp only at H);have Ny253 := M_ hy253;clear hy253;obtain ⟨ji2, hji2⟩ : ∃ j_ : Int, (Int.tmod a0 12) = j_ := ⟨_, rfl⟩
 replace H : (if 0 ≤ (ji2) then (if (ji2) < (y253.length : Int) then ((itoa.f (wrap64 (Int.tdiv a0 12))).bind fun t257 => (if (rdOf ByteArray.empty y253 (ji2)).size + t257.size ≤ 9223372036854775807 then (some ((rdOf ByteArray.empty y253 (ji2)) ++ t257)) else (none))) else (none)) else (none)) = some r := by first | (rw [hji2] at H; exact H) | (simp only [hji2] at H ⊢; exact H)
 by_cases c3 : 0 ≤ (ji2)
 ·rw [if_pos c3] at H
  have c3b0 : decide (0 ≤ (ji2)) = true := decide_eq_true c3
  clear c3
  by_cases c4 : (ji2) < (y253.length : Int)
  ·rw [if_pos c4] at H
   have c4b0 : decide ((ji2) < (y253.length : Int)) = true := decide_eq_true c4
   clear c4;replace H := Option.bind_eq_some_iff.mp H;obtain ⟨t257, A50, H⟩ := H;(try dsimp only at H);have A5 := M_ A50;clear A50
   by_cases c6 : (rdOf ByteArray.empty y253 (ji2)).size + t257.size ≤ 9223372036854775807
   ·rw [if_pos c6] at H
    have c6b0 := eq_true c6
    have c6b1 : decide ((rdOf ByteArray.empty y253 (ji2)).size + t257.size ≤ 9223372036854775807) = true := decide_eq_true c6
    try have c6b2 : (9223372036854775807 < (rdOf ByteArray.empty y253 (ji2)).size + t257.size) = False := eq_false (Nat.not_lt.2 c6)
    obtain rfl := Option.some.inj H
    go_enter Tryz.func52, Tryz.ntmps52
    go_wp2_with (first | ((with_reducible refine gate_dst (N := 4) rfl ?_); refine Kd.R_lit Kd.string _ 9 ?hg (N := 4) ?hd (xs := ([(⟨#[99]⟩ : ByteArray), (⟨#[99, 35]⟩ : ByteArray), (⟨#[100]⟩ : ByteArray), (⟨#[100, 35]⟩ : ByteArray), (⟨#[101]⟩ : ByteArray), (⟨#[102]⟩ : ByteArray), (⟨#[102, 35]⟩ : ByteArray), (⟨#[103]⟩ : ByteArray), (⟨#[103, 35]⟩ : ByteArray), (⟨#[97]⟩ : ByteArray), (⟨#[97, 35]⟩ : ByteArray), (⟨#[98]⟩ : ByteArray)] : List ByteArray)) (inner := [.string (⟨#[99]⟩ : ByteArray), .string (⟨#[99, 35]⟩ : ByteArray), .string (⟨#[100]⟩ : ByteArray), .string (⟨#[100, 35]⟩ : ByteArray), .string (⟨#[101]⟩ : ByteArray), .string (⟨#[102]⟩ : ByteArray), .string (⟨#[102, 35]⟩ : ByteArray), .string (⟨#[103]⟩ : ByteArray), .string (⟨#[103, 35]⟩ : ByteArray), .string (⟨#[97]⟩ : ByteArray), .string (⟨#[97, 35]⟩ : ByteArray), .string (⟨#[98]⟩ : ByteArray)]) (ok := fun _ => True) (okp := fun _ => True) ?hr ?hp (fun _ hk => hk) trivial (Below.refl _ _) (Nat.le_refl _) (by simp) ?_; (case hd => rfl); (case hg => rfl); (case hr => first | (go_simp; done) | (go_simp; rfl)); (case hp => exact (Reps.one (show Kd.M Kd.string _ _ _ (⟨#[99]⟩ : ByteArray) [.string (⟨#[99]⟩ : ByteArray)] from rfl) (Reps.one (show Kd.M Kd.string _ _ _ (⟨#[99, 35]⟩ : ByteArray) [.string (⟨#[99, 35]⟩ : ByteArray)] from rfl) (Reps.one (show Kd.M Kd.string _ _ _ (⟨#[100]⟩ : ByteArray) [.string (⟨#[100]⟩ : ByteArray)] from rfl) (Reps.one (show Kd.M Kd.string _ _ _ (⟨#[100, 35]⟩ : ByteArray) [.string (⟨#[100, 35]⟩ : ByteArray)] from rfl) (Reps.one (show Kd.M Kd.string _ _ _ (⟨#[101]⟩ : ByteArray) [.string (⟨#[101]⟩ : ByteArray)] from rfl) (Reps.one (show Kd.M Kd.string _ _ _ (⟨#[102]⟩ : ByteArray) [.string (⟨#[102]⟩ : ByteArray)] from rfl) (Reps.one (show Kd.M Kd.string _ _ _ (⟨#[102, 35]⟩ : ByteArray) [.string (⟨#[102, 35]⟩ : ByteArray)] from rfl) (Reps.one (show Kd.M Kd.string _ _ _ (⟨#[103]⟩ : ByteArray) [.string (⟨#[103]⟩ : ByteArray)] from rfl) (Reps.one (show Kd.M Kd.string _ _ _ (⟨#[103, 35]⟩ : ByteArray) [.string (⟨#[103, 35]⟩ : ByteArray)] from rfl) (Reps.one (show Kd.M Kd.string _ _ _ (⟨#[97]⟩ : ByteArray) [.string (⟨#[97]⟩ : ByteArray)] from rfl) (Reps.one (show Kd.M Kd.string _ _ _ (⟨#[97, 35]⟩ : ByteArray) [.string (⟨#[97, 35]⟩ : ByteArray)] from rfl) (Reps.one (show Kd.M Kd.string _ _ _ (⟨#[98]⟩ : ByteArray) [.string (⟨#[98]⟩ : ByteArray)] from rfl) (Reps.none _ _)))))))))))))); intro v254 w7 ho8 hb hg_ hnew_; clear hg_ hnew_; (first | rw [← Ny253.out] at ho8 | (simp only [Int.reduceToNat] at ho8; rw [← Ny253.out] at ho8)); have HO255 := M_ (Kd.R_lower ho8 (bZ_ HB)); replace HB := M_ (bS_ HB hb); clear hb ho8; obtain ⟨Ao9, co9, eo9⟩ := Kd.R_slice HO255.out; subst eo9; have p256 : 0 ≤ ((ji2) : Int) := dT_; have q256 : (ji2) < (y253.length : Int) := dT_; obtain ⟨ad256, e256, hx256_0⟩ := Kd.at_string (Kd.R_reads' HO255.out).2.2 (ji2) p256 q256; cases e256; replace p256 := eq_true p256; replace q256 := eq_true q256) | (go_at_call 54; (with_reducible refine (itoa.calls (wrap64 (Int.tdiv a0 12)) t257 _ A5.out).mono ?_); rintro e w' ⟨rfl, ⟨nd, rfl⟩⟩; (try first | exact ⟨rfl, _, World.drewN_drewN _ _ _⟩ | exact ⟨rfl, _, Eq.trans (World.drewN_drewN _ _ _) (congrArg (World.drewN _) (Nat.add_assoc _ _ _))⟩)))
    repeat (go_quiet (first | ((with_reducible refine gate_dst (N := 4) rfl ?_); refine Kd.R_lit Kd.string _ 9 ?hg (N := 4) ?hd (xs := ([(⟨#[99]⟩ : ByteArray), (⟨#[99, 35]⟩ : ByteArray), (⟨#[100]⟩ : ByteArray), (⟨#[100, 35]⟩ : ByteArray), (⟨#[101]⟩ : ByteArray), (⟨#[102]⟩ : ByteArray), (⟨#[102, 35]⟩ : ByteArray), (⟨#[103]⟩ : ByteArray), (⟨#[103, 35]⟩ : ByteArray), (⟨#[97]⟩ : ByteArray), (⟨#[97, 35]⟩ : ByteArray), (⟨#[98]⟩ : ByteArray)] : List ByteArray)) (inner := [.string (⟨#[99]⟩ : ByteArray), .string (⟨#[99, 35]⟩ : ByteArray), .string (⟨#[100]⟩ : ByteArray), .string (⟨#[100, 35]⟩ : ByteArray), .string (⟨#[101]⟩ : ByteArray), .string (⟨#[102]⟩ : ByteArray), .string (⟨#[102, 35]⟩ : ByteArray), .string (⟨#[103]⟩ : ByteArray), .string (⟨#[103, 35]⟩ : ByteArray), .string (⟨#[97]⟩ : ByteArray), .string (⟨#[97, 35]⟩ : ByteArray), .string (⟨#[98]⟩ : ByteArray)]) (ok := fun _ => True) (okp := fun _ => True) ?hr ?hp (fun _ hk => hk) trivial (Below.refl _ _) (Nat.le_refl _) (by simp) ?_; (case hd => rfl); (case hg => rfl); (case hr => first | (go_simp; done) | (go_simp; rfl)); (case hp => exact (Reps.one (show Kd.M Kd.string _ _ _ (⟨#[99]⟩ : ByteArray) [.string (⟨#[99]⟩ : ByteArray)] from rfl) (Reps.one (show Kd.M Kd.string _ _ _ (⟨#[99, 35]⟩ : ByteArray) [.string (⟨#[99, 35]⟩ : ByteArray)] from rfl) (Reps.one (show Kd.M Kd.string _ _ _ (⟨#[100]⟩ : ByteArray) [.string (⟨#[100]⟩ : ByteArray)] from rfl) (Reps.one (show Kd.M Kd.string _ _ _ (⟨#[100, 35]⟩ : ByteArray) [.string (⟨#[100, 35]⟩ : ByteArray)] from rfl) (Reps.one (show Kd.M Kd.string _ _ _ (⟨#[101]⟩ : ByteArray) [.string (⟨#[101]⟩ : ByteArray)] from rfl) (Reps.one (show Kd.M Kd.string _ _ _ (⟨#[102]⟩ : ByteArray) [.string (⟨#[102]⟩ : ByteArray)] from rfl) (Reps.one (show Kd.M Kd.string _ _ _ (⟨#[102, 35]⟩ : ByteArray) [.string (⟨#[102, 35]⟩ : ByteArray)] from rfl) (Reps.one (show Kd.M Kd.string _ _ _ (⟨#[103]⟩ : ByteArray) [.string (⟨#[103]⟩ : ByteArray)] from rfl) (Reps.one (show Kd.M Kd.string _ _ _ (⟨#[103, 35]⟩ : ByteArray) [.string (⟨#[103, 35]⟩ : ByteArray)] from rfl) (Reps.one (show Kd.M Kd.string _ _ _ (⟨#[97]⟩ : ByteArray) [.string (⟨#[97]⟩ : ByteArray)] from rfl) (Reps.one (show Kd.M Kd.string _ _ _ (⟨#[97, 35]⟩ : ByteArray) [.string (⟨#[97, 35]⟩ : ByteArray)] from rfl) (Reps.one (show Kd.M Kd.string _ _ _ (⟨#[98]⟩ : ByteArray) [.string (⟨#[98]⟩ : ByteArray)] from rfl) (Reps.none _ _)))))))))))))); intro v254 w7 ho8 hb hg_ hnew_; clear hg_ hnew_; (first | rw [← Ny253.out] at ho8 | (simp only [Int.reduceToNat] at ho8; rw [← Ny253.out] at ho8)); have HO255 := M_ (Kd.R_lower ho8 (bZ_ HB)); replace HB := M_ (bS_ HB hb); clear hb ho8; obtain ⟨Ao9, co9, eo9⟩ := Kd.R_slice HO255.out; subst eo9; have p256 : 0 ≤ ((ji2) : Int) := dT_; have q256 : (ji2) < (y253.length : Int) := dT_; obtain ⟨ad256, e256, hx256_0⟩ := Kd.at_string (Kd.R_reads' HO255.out).2.2 (ji2) p256 q256; cases e256; replace p256 := eq_true p256; replace q256 := eq_true q256) | (go_at_call 54; (with_reducible refine (itoa.calls (wrap64 (Int.tdiv a0 12)) t257 _ A5.out).mono ?_); rintro e w' ⟨rfl, ⟨nd, rfl⟩⟩; (try first | exact ⟨rfl, _, World.drewN_drewN _ _ _⟩ | exact ⟨rfl, _, Eq.trans (World.drewN_drewN _ _ _) (congrArg (World.drewN _) (Nat.add_assoc _ _ _))⟩))); try go_wp2_with (first | ((with_reducible refine gate_dst (N := 4) rfl ?_); refine Kd.R_lit Kd.string _ 9 ?hg (N := 4) ?hd (xs := ([(⟨#[99]⟩ : ByteArray), (⟨#[99, 35]⟩ : ByteArray), (⟨#[100]⟩ : ByteArray), (⟨#[100, 35]⟩ : ByteArray), (⟨#[101]⟩ : ByteArray), (⟨#[102]⟩ : ByteArray), (⟨#[102, 35]⟩ : ByteArray), (⟨#[103]⟩ : ByteArray), (⟨#[103, 35]⟩ : ByteArray), (⟨#[97]⟩ : ByteArray), (⟨#[97, 35]⟩ : ByteArray), (⟨#[98]⟩ : ByteArray)] : List ByteArray)) (inner := [.string (⟨#[99]⟩ : ByteArray), .string (⟨#[99, 35]⟩ : ByteArray), .string (⟨#[100]⟩ : ByteArray), .string (⟨#[100, 35]⟩ : ByteArray), .string (⟨#[101]⟩ : ByteArray), .string (⟨#[102]⟩ : ByteArray), .string (⟨#[102, 35]⟩ : ByteArray), .string (⟨#[103]⟩ : ByteArray), .string (⟨#[103, 35]⟩ : ByteArray), .string (⟨#[97]⟩ : ByteArray), .string (⟨#[97, 35]⟩ : ByteArray), .string (⟨#[98]⟩ : ByteArray)]) (ok := fun _ => True) (okp := fun _ => True) ?hr ?hp (fun _ hk => hk) trivial (Below.refl _ _) (Nat.le_refl _) (by simp) ?_; (case hd => rfl); (case hg => rfl); (case hr => first | (go_simp; done) | (go_simp; rfl)); (case hp => exact (Reps.one (show Kd.M Kd.string _ _ _ (⟨#[99]⟩ : ByteArray) [.string (⟨#[99]⟩ : ByteArray)] from rfl) (Reps.one (show Kd.M Kd.string _ _ _ (⟨#[99, 35]⟩ : ByteArray) [.string (⟨#[99, 35]⟩ : ByteArray)] from rfl) (Reps.one (show Kd.M Kd.string _ _ _ (⟨#[100]⟩ : ByteArray) [.string (⟨#[100]⟩ : ByteArray)] from rfl) (Reps.one (show Kd.M Kd.string _ _ _ (⟨#[100, 35]⟩ : ByteArray) [.string (⟨#[100, 35]⟩ : ByteArray)] from rfl) (Reps.one (show Kd.M Kd.string _ _ _ (⟨#[101]⟩ : ByteArray) [.string (⟨#[101]⟩ : ByteArray)] from rfl) (Reps.one (show Kd.M Kd.string _ _ _ (⟨#[102]⟩ : ByteArray) [.string (⟨#[102]⟩ : ByteArray)] from rfl) (Reps.one (show Kd.M Kd.string _ _ _ (⟨#[102, 35]⟩ : ByteArray) [.string (⟨#[102, 35]⟩ : ByteArray)] from rfl) (Reps.one (show Kd.M Kd.string _ _ _ (⟨#[103]⟩ : ByteArray) [.string (⟨#[103]⟩ : ByteArray)] from rfl) (Reps.one (show Kd.M Kd.string _ _ _ (⟨#[103, 35]⟩ : ByteArray) [.string (⟨#[103, 35]⟩ : ByteArray)] from rfl) (Reps.one (show Kd.M Kd.string _ _ _ (⟨#[97]⟩ : ByteArray) [.string (⟨#[97]⟩ : ByteArray)] from rfl) (Reps.one (show Kd.M Kd.string _ _ _ (⟨#[97, 35]⟩ : ByteArray) [.string (⟨#[97, 35]⟩ : ByteArray)] from rfl) (Reps.one (show Kd.M Kd.string _ _ _ (⟨#[98]⟩ : ByteArray) [.string (⟨#[98]⟩ : ByteArray)] from rfl) (Reps.none _ _)))))))))))))); intro v254 w7 ho8 hb hg_ hnew_; clear hg_ hnew_; (first | rw [← Ny253.out] at ho8 | (simp only [Int.reduceToNat] at ho8; rw [← Ny253.out] at ho8)); have HO255 := M_ (Kd.R_lower ho8 (bZ_ HB)); replace HB := M_ (bS_ HB hb); clear hb ho8; obtain ⟨Ao9, co9, eo9⟩ := Kd.R_slice HO255.out; subst eo9; have p256 : 0 ≤ ((ji2) : Int) := dT_; have q256 : (ji2) < (y253.length : Int) := dT_; obtain ⟨ad256, e256, hx256_0⟩ := Kd.at_string (Kd.R_reads' HO255.out).2.2 (ji2) p256 q256; cases e256; replace p256 := eq_true p256; replace q256 := eq_true q256) | (go_at_call 54; (with_reducible refine (itoa.calls (wrap64 (Int.tdiv a0 12)) t257 _ A5.out).mono ?_); rintro e w' ⟨rfl, ⟨nd, rfl⟩⟩; (try first | exact ⟨rfl, _, World.drewN_drewN _ _ _⟩ | exact ⟨rfl, _, Eq.trans (World.drewN_drewN _ _ _) (congrArg (World.drewN _) (Nat.add_assoc _ _ _))⟩))))
    go_ret
    exact ⟨by first | rfl | (simp [errW_none, errW_some] <;> rfl) | (simp only [← hji2]; first | rfl | (simp [errW_none, errW_some] <;> rfl)) | (simp [*, errW_none, errW_some] <;> rfl), bU_ HB⟩
   ·rw [if_neg c6] at H
    exact absurd H (by simp)
  ·rw [if_neg c4] at H
   exact absurd H (by simp)
 ·rw [if_neg c3] at H
  exact absurd H (by simp)

-- NOT PRINTED: function 53 (strings_Builder_String)

-- XSHELF
-- XBLD
def impl_instrumentText.l0 : Nat → ByteArray → List Int → Int → Int → List Int → Int → Option (ByteArray)
 | 0, _, _, _, _, _, _ => none
 | k + 1, x3, x7, x8, x9, x126000, x126001 => if x9 < x8 then (if 0 ≤ x9 then (if x9 < (x7.length : Int) then ((impl_pitchName.f (rd x7 x9)).bind fun t127 => (if x3.size + (t127 ++ (⟨#[32]⟩ : ByteArray)).size ≤ 140737488355328 then (impl_instrumentText.l0 k (x3 ++ (t127 ++ (⟨#[32]⟩ : ByteArray))) x7 x8 (wrap64 (x9 + 1)) x126000 x126001) else (none))) else (none)) else (none)) else ((itoa.f x126001).bind fun t128 => (if x3.size + t128.size ≤ 140737488355328 then (some ((x3 ++ t128) ++ (⟨#[10]⟩ : ByteArray))) else (none)))
def impl_instrumentText.f (k : Nat) (l0_0 : List Int) (a0_1 : Int) : Option (ByteArray) := impl_instrumentText.l0 k (⟨#[]⟩ : ByteArray) l0_0 (l0_0.length : Int) 0 l0_0 a0_1
theorem impl_instrumentText.mono_l : ∀ k, (∀ y0 y1 y2 y3 y4 y5, LeO (impl_instrumentText.l0 k y0 y1 y2 y3 y4 y5) (impl_instrumentText.l0 (k + 1) y0 y1 y2 y3 y4 y5))
 | 0 => fun _ _ _ _ _ _ r h => by simp [impl_instrumentText.l0] at h
 | k + 1 => by
  have ih0 := impl_instrumentText.mono_l k
  ·intro y0 y1 y2 y3 y4 y5
   unfold impl_instrumentText.l0
   repeat' first
   | (with_reducible exact ih0 _ _ _ _ _ _)
   | (with_reducible exact LeO.refl _)
   | (with_reducible exact LeO.none _)
   | (with_reducible refine LeO.ite ?_ ?_)
   | (with_reducible refine LeO.bind ?_ (fun _ => ?_))
   | exact ih0 _ _ _ _ _ _
   | exact LeO.refl _
theorem impl_instrumentText.mono : ∀ a0 a1 k, LeO (impl_instrumentText.f k a0 a1) (impl_instrumentText.f (k + 1) a0 a1) := fun a0 a1 k => impl_instrumentText.mono_l k _ _ _ _ _ _
theorem bld_text (s : ByteArray) : Lib.strCells s = Lib.byteCells s.data.toList := rfl
theorem bld_add (x t : ByteArray) : Lib.byteCells x.data.toList ++ Lib.strCells t = Lib.byteCells (x ++ t).data.toList := by
 rw [bld_text, ← Lib.byteCells_append]
 exact congrArg Lib.byteCells (by simp)
theorem bld_size (x : ByteArray) : (Lib.byteCells x.data.toList).length = x.size := by rw [Lib.byteCells_length, Array.length_toList]; rfl
theorem bld_whole (x : ByteArray) : (⟨x.data.toList.toArray⟩ : ByteArray) = x := by cases x; rfl
theorem bld_below {T e : TypeId} {B b : Nat} {bs : List Value} {w w' : World} (h : Lib.IsBuilderF T e B b bs w) (hb : Below w.heap.size w w') : Lib.IsBuilderF T e B b bs w' := by
 have key : ∀ p, Lib.BuilderAtF T e B b p bs w → Lib.BuilderAtF T e B b p bs w' := by
  rintro p ⟨hB, v, hh, hown, hne⟩;exact ⟨hB, v, (hb.block b (Array.getElem?_eq_some_iff.1 hh).1).trans hh, hown.kept (grown_of_below hb none) (by cases v.ownBlock <;> simp), hne⟩
 exact h.elim (fun x => .inl (key _ x)) (fun x => .inr (key _ x))
theorem bld_drewN {T e : TypeId} {B b : Nat} {bs : List Value} {w : World} (h : Lib.IsBuilderF T e B b bs w) (n : Nat) : Lib.IsBuilderF T e B b bs (w.drewN n) := bld_below h (bn_ (Below.refl _ _) n)
set_option maxHeartbeats 8000000 in
set_option maxRecDepth 100000 in
theorem impl_instrumentText.calls (k : Nat) (A0_0 : Option Addr) (c0_0 : Nat) (l0_0 : List Int) (a0_1 : Int) (r : ByteArray) (w : World) (hr0_0 : Kd.C (Kd.int .i64) w A0_0 l0_0.length l0_0) (hc0_0 : l0_0.length ≤ c0_0) (h : impl_instrumentText.f k l0_0 a0_1 = some r) :
  Calls Tryz.prog 26 #[.agg #[.slice A0_0 l0_0.length c0_0, .int .i64 a0_1]] w fun e w' => e = .returned (.string r) ∧ Below w.heap.size w w' := by
 have hu30 := Tryz.underlying25;have HR0_0 := M_ hr0_0;have HC0_0 := M_ hc0_0;clear hr0_0 hc0_0;have HB := M_ (Below.refl w.heap.size w)
 have H : (impl_instrumentText.l0 k (⟨#[]⟩ : ByteArray) l0_0 (l0_0.length : Int) 0 l0_0 a0_1) = some r := h
 clear h
 have H' := M_ H
 clear H
 go_enter Tryz.func26, Tryz.ntmps26
 go_wp2_with (first | ((with_reducible refine gate_dst (N := 1) rfl ?_); refine bx_ (N := 1) (cs := #[.slice A0_0 l0_0.length c0_0, .int .i64 a0_1]) (t := 25) ?_; intro gb hg w2 hbox hb; have BK := M_ (hbox); have GW := M_ ((by rw [hg]; exact (below_size HB.out) : w.heap.size ≤ gb)); replace HB := M_ (below_step HB.out hb); clear hb hbox hg; have hcz3_0 : w2.cell? ⟨gb, 0, none⟩ = some (.slice A0_0 l0_0.length c0_0) := (blk_cell BK.out 0).trans rfl; have hcz3_1 : w2.cell? ⟨gb, 1, none⟩ = some (.int .i64 a0_1) := (blk_cell BK.out 1).trans rfl; have hcz4_0 : (w2.alloc (.cells #[.pointer none, .slice none 0 0] 69)).cell? ⟨gb, 0, none⟩ = some (.slice A0_0 l0_0.length c0_0) := (blk_cell (ka_ BK.out _) 0).trans rfl))
 have hbl : gb < w2.heap.size := blk_lt BK.out
 have HI := M_ (Lib.IsBuilderF.of (Lib.fresh_isBuilder 69 5 w2));have HB2 := M_ (ba_ HB.out (.cells #[.pointer none, .slice none 0 0] 69));have BK2 := M_ (ka_ BK.out (.cells #[.pointer none, .slice none 0 0] 69));have HGE := M_ (below_size HB.out);have HLT := M_ hbl;obtain ⟨gB, hgB⟩ : ∃ gB, gB = w2.heap.size := ⟨_, rfl⟩;have EGB := M_ hgB;clear hbl
 go_loopg [9] k (fun kq v9 w' => ∃ (x3_1 : ByteArray) (x9_1 : Int), v9 = .int .i64 x9_1 ∧ Aside0 (impl_instrumentText.l0 kq x3_1 l0_0 (l0_0.length : Int) x9_1 l0_0 a0_1 = some r) ∧ Aside0 (kq ≤ k) ∧ Aside0 (Lib.IsBuilderF 69 5 w2.heap.size w2.heap.size (Lib.byteCells x3_1.data.toList) w') ∧ Aside0 (w'.heap[gb]? = some (.cells #[(.slice A0_0 l0_0.length c0_0), .int .i64 a0_1] 25 (0, 0))) ∧ Aside0 (Below w.heap.size w w') ∧ Aside0 (w2.heap.size ≤ w'.heap.size))
 case atStart => exact ⟨(⟨#[]⟩ : ByteArray), (0), rfl, H', ⟨Nat.le_refl _⟩, HI, BK2, HB2, ⟨by simp⟩⟩
 case round =>
  clear H' HI BK2 HB2 HB BK;obtain ⟨x3_1, x9_1, rfl, HA, HK1, HI, BK, HB, HS⟩ := hrel
  cases gk with
  | zero => exact absurd HA.out (by simp [impl_instrumentText.l0])
  | succ k1 =>
   have H := HA.out;clear HA;simp only [impl_instrumentText.l0] at H
   by_cases c4 : x9_1 < (l0_0.length : Int)
   ·rw [if_pos c4] at H
    have c4b0 : decide (x9_1 < (l0_0.length : Int)) = true := decide_eq_true c4
    clear c4
    by_cases c5 : 0 ≤ x9_1
    ·rw [if_pos c5] at H
     have c5b0 : decide (0 ≤ x9_1) = true := decide_eq_true c5
     clear c5
     by_cases c6 : x9_1 < (l0_0.length : Int)
     ·rw [if_pos c6] at H
      have c6b0 : decide (x9_1 < (l0_0.length : Int)) = true := decide_eq_true c6
      clear c6;replace H := Option.bind_eq_some_iff.mp H;obtain ⟨t127, A70, H⟩ := H;(try dsimp only at H);have A7 := M_ A70;clear A70
      by_cases c9 : x3_1.size + (t127 ++ (⟨#[32]⟩ : ByteArray)).size ≤ 140737488355328
      ·rw [if_pos c9] at H
       have c8 : t127.size + 1 ≤ 9223372036854775807 := by
        have : (t127 ++ (⟨#[32]⟩ : ByteArray)).size = t127.size + 1 := by rw [ByteArray.size_append]; rfl
        omega
       have c8b0 := eq_true c8
       have c8b1 : decide (t127.size + 1 ≤ 9223372036854775807) = true := decide_eq_true c8
       try have c8b2 : (9223372036854775807 < t127.size + 1) = False := eq_false (Nat.not_lt.2 c8)
       have HLEN := M_ (show (Lib.byteCells x3_1.data.toList).length + (t127 ++ (⟨#[32]⟩ : ByteArray)).size ≤ 140737488355328 by rw [bld_size]; exact c9);clear c8 c9
       have H' := M_ H
       clear H
       have p126 : 0 ≤ (x9_1 : Int) := dT_
       have q126 : x9_1 < (l0_0.length : Int) := dT_
       obtain ⟨ad126, e126, hx126_0⟩ := Kd.at_int HR0_0.out x9_1 p126 q126;cases e126;replace hx126_0 := (HB.out.cell (World.block_lt_of_cell? w _ hx126_0)).trans hx126_0;replace p126 := eq_true p126;replace q126 := eq_true q126
       go_wp2_with (first | ((with_reducible refine gc_ 52 ?_); refine goesL_ (some 14) rfl rfl Tryz.func52 (by kernel_rfl) rfl #[.int .i64 (rd l0_0 x9_1)] rfl (by (try simp only [List.map_toArray, List.map_cons, List.map_nil]); first | done | rfl) ?_; (with_reducible refine (impl_pitchName.calls (rd l0_0 x9_1) t127 _ A7.out).mono ?_); rintro e w10 ⟨rfl, hb⟩; refine ⟨_, rfl, ?_⟩; have n0_ := M_ (blk_below BK.out hb); have n1_ := M_ (below_step HB.out hb); have n2_ := M_ (bld_below HI.out hb); have n3_ := M_ (Nat.le_trans HS.out hb.size); clear BK HB HI HS; have BK := n0_; have HB := n1_; have HI := n2_; have HS := n3_; clear n0_ n1_ n2_ n3_; clear hb) | ((with_reducible refine gc_ 51 ?_); refine goesL_ (some 16) rfl rfl Tryz.func51 (by kernel_rfl) rfl #[.pointer (some ⟨w2.heap.size, 0, none⟩), .string (t127 ++ (⟨#[32]⟩ : ByteArray))] rfl (by (try simp only [List.map_toArray, List.map_cons, List.map_nil]); first | done | rfl) ?_; (refine (Tryz.Builder_WriteString_k w2.heap.size w2.heap.size _ _ _ HI.out HLEN.out HS.out).mono ?_); rintro e w11 ⟨rfl, h1, hb, ho⟩; refine ⟨_, rfl, ?_⟩; have n0_ := M_ ((hb.block _ HLT.out).trans BK.out); have n1_ := M_ (HB.out.trans (hb.mono HGE.out)); have n2_ := M_ (show Lib.IsBuilderF 69 5 w2.heap.size w2.heap.size (Lib.byteCells (x3_1 ++ (t127 ++ (⟨#[32]⟩ : ByteArray))).data.toList) _ from by rw [← bld_add]; exact Or.inr h1); have n3_ := M_ (Nat.le_trans HS.out hb.size); clear BK HB HI HS; have BK := n0_; have HB := n1_; have HI := n2_; have HS := n3_; clear n0_ n1_ n2_ n3_; clear hb h1 ho))
       go_roundg k1
       case measure => have := HK1.out; omega
       case rel => exact ⟨(x3_1 ++ (t127 ++ (⟨#[32]⟩ : ByteArray))), (wrap64 (x9_1 + 1)), rfl, H', ⟨by have := HK1.out; omega⟩, HI, BK, HB, HS⟩
      ·rw [if_neg c9] at H
       exact absurd H (by simp)
     ·rw [if_neg c6] at H
      exact absurd H (by simp)
    ·rw [if_neg c5] at H
     exact absurd H (by simp)
   ·rw [if_neg c4] at H
    have c4b0 : decide (x9_1 < (l0_0.length : Int)) = false := decide_eq_false c4
    clear c4;replace H := Option.bind_eq_some_iff.mp H;obtain ⟨t128, A110, H⟩ := H;(try dsimp only at H);have A11 := M_ A110;clear A110
    by_cases c12 : x3_1.size + t128.size ≤ 140737488355328
    ·rw [if_pos c12] at H
     have c12a : x3_1.size + t128.size ≤ 9223372036854775807 := by omega
     have c12b0 := eq_true c12a
     have c12b1 : decide (x3_1.size + t128.size ≤ 9223372036854775807) = true := decide_eq_true c12a
     try have c12b2 : (9223372036854775807 < x3_1.size + t128.size) = False := eq_false (Nat.not_lt.2 c12a)
     have c13 : (x3_1 ++ t128).size + 1 ≤ 9223372036854775807 := by
      have : (x3_1 ++ t128).size = x3_1.size + t128.size := by simp
      omega
     have c13b0 := eq_true c13
     have c13b1 : decide ((x3_1 ++ t128).size + 1 ≤ 9223372036854775807) = true := decide_eq_true c13
     try have c13b2 : (9223372036854775807 < (x3_1 ++ t128).size + 1) = False := eq_false (Nat.not_lt.2 c13)
     have c13s := c13
     try simp only [ByteArray.size_append, ByteArray.size_append] at c13s
     have c13s0 := eq_true c13s;have c13s1 := decide_eq_true c13s
     try have c13s2 := eq_false (Nat.not_lt.2 c13s)
     obtain rfl := Option.some.inj H;clear H c12 c12a c13
     have hcz14_1 : wr.cell? ⟨gb, 1, none⟩ = some (.int .i64 a0_1) := (blk_cell BK.out 1).trans rfl
     have HId := M_ (bld_below HI.out (below_drew (Below.refl wr.heap.size wr)));have HBd := M_ (below_drew HB.out)
     go_wp2
     go_region_with (first | (go_at_call 53; refine (Tryz.Builder_String_any_k w2.heap.size w2.heap.size x3_1.data.toList _ HId.out HS.out).mono ?_; rintro e w15 ⟨rfl, hI1, hb1, ho1⟩; have hcz15_1 : w15.cell? ⟨gb, 1, none⟩ = some (.int .i64 a0_1) := (hb1.cell HLT.out).trans hcz14_1; have HB15 := M_ (HBd.out.trans (hb1.mono HGE.out)); clear hI1 ho1 hb1) | (go_at_call 54; refine (itoa.calls a0_1 t128 _ A11.out).mono ?_; rintro e w16 ⟨rfl, ⟨nd, rfl⟩⟩))
     all_goals (go_wp2; go_ret; exact ⟨by first | rfl | (simp; done), by repeat (first | (with_reducible first | exact HB15.out | apply bn_ | apply b1_) | exact HB15.out)⟩)
    ·rw [if_neg c12] at H
     exact absurd H (by simp)

def impl_InstrumentText.f (k : Nat) (l0_0 : List Int) (a0_1 : Int) : Option (ByteArray × Bool) := (impl_IsInstrument.f k l0_0 a0_1).bind fun t259 => (if t259 = true then ((impl_instrumentText.f k l0_0 a0_1).bind fun t260 => (some (t260, true))) else (some ((⟨#[]⟩ : ByteArray), false)))
theorem impl_InstrumentText.mono : ∀ a0 a1 k, LeO (impl_InstrumentText.f k a0 a1) (impl_InstrumentText.f (k + 1) a0 a1) := by
 intro a0 a1 k
 unfold impl_InstrumentText.f
 have m0_ := @impl_IsInstrument.mono;have m1_ := @impl_instrumentText.mono;exact mo_
set_option maxHeartbeats 8000000 in
set_option maxRecDepth 100000 in
theorem impl_InstrumentText.calls (k : Nat) (A0_0 : Option Addr) (c0_0 : Nat) (l0_0 : List Int) (a0_1 : Int) (r1 : ByteArray) (r2 : Bool) (w : World) (hr0_0 : Kd.C (Kd.int .i64) w A0_0 l0_0.length l0_0) (hc0_0 : l0_0.length ≤ c0_0) (h : impl_InstrumentText.f k l0_0 a0_1 = some (r1, r2)) :
  Calls Tryz.prog 5 #[.agg #[.slice A0_0 l0_0.length c0_0, .int .i64 a0_1]] w fun e w' => e = .returned (.tuple #[.string r1, .bool r2]) ∧ Below w.heap.size w w' := by
 have hu25 := Tryz.underlying25;have HR0_0 := M_ hr0_0;have HC0_0 := M_ hc0_0;clear hr0_0 hc0_0;have HB := M_ (Below.refl w.heap.size w)
 have H : ((impl_IsInstrument.f k l0_0 a0_1).bind fun t259 => (if t259 = true then ((impl_instrumentText.f k l0_0 a0_1).bind fun t260 => (some (t260, true))) else (some ((⟨#[]⟩ : ByteArray), false)))) = some (r1, r2) := h
 clear h;replace H := Option.bind_eq_some_iff.mp H;obtain ⟨t259, A20, H⟩ := H;(try dsimp only at H);have A2 := M_ A20;clear A20
 by_cases c3 : t259 = true
 ·subst c3
  rw [if_pos rfl] at H
  replace H := Option.bind_eq_some_iff.mp H;obtain ⟨t260, A40, H⟩ := H;replace H : (some (t260, true)) = some (r1, r2) := H;have A4 := M_ A40;clear A40;simp only [Option.some.injEq, Prod.mk.injEq] at H;obtain ⟨rfl, rfl⟩ := H
  go_enter Tryz.func5, Tryz.ntmps5
  go_wp2_with (first | ((with_reducible refine gate_dst (N := 1) rfl ?_); refine bx_ (N := 1) (cs := #[.slice A0_0 l0_0.length c0_0, .int .i64 a0_1]) (t := 25) ?_; intro gb258 hg w5 hbox hb; have BK258 := M_ (hbox); have GW258 := M_ (gw_ HB hg); have GE258 := M_ (gw_ HB hg); replace HB := M_ (bS_ HB hb); clear hb hbox hg; obtain ⟨hcz6_0, hcz6_1, hfz6_0, hfz6_1⟩ := bq2_ BK258) | ((with_reducible refine gc_ 23 ?_); refine gM_ (some 5) Tryz.func23 #[.agg #[.slice A0_0 l0_0.length c0_0, .int .i64 a0_1]] ?_; (with_reducible refine (impl_IsInstrument.calls k _ _ l0_0 a0_1 true _ ?side1 ?side2 A2.out).mono ?_); (case side1 => exact cU_ (Kd.C_below HR0_0.out HB.out)); (case side2 => exact HC0_0.out); rintro e w7 ⟨rfl, hb⟩; refine ⟨_, rfl, ?_⟩; replace BK258 := M_ (kb_ BK258 hb); replace HB := M_ (bS_ HB hb); clear hb; obtain ⟨hcz8_0, hcz8_1, hfz8_0, hfz8_1⟩ := bq2_ BK258) | ((with_reducible refine gc_ 26 ?_); refine gM_ (some 8) Tryz.func26 #[.agg #[.slice A0_0 l0_0.length c0_0, .int .i64 a0_1]] ?_; (with_reducible refine (impl_instrumentText.calls k _ _ l0_0 a0_1 t260 _ ?side1 ?side2 A4.out).mono ?_); (case side1 => exact cU_ (Kd.C_below HR0_0.out HB.out)); (case side2 => exact HC0_0.out); rintro e w9 ⟨rfl, hb⟩; refine ⟨_, rfl, ?_⟩; replace BK258 := M_ (kb_ BK258 hb); replace HB := M_ (bS_ HB hb); clear hb))
  go_ret2
  exact ⟨eR_, bU_ HB⟩
 ·replace c3 := Bool.eq_false_iff.mpr c3
  subst c3
  rw [if_neg (show ¬ (false = true) by decide)] at H
  simp only [Option.some.injEq, Prod.mk.injEq] at H;obtain ⟨rfl, rfl⟩ := H
  go_enter Tryz.func5, Tryz.ntmps5
  go_wp2_with (first | ((with_reducible refine gate_dst (N := 1) rfl ?_); refine bx_ (N := 1) (cs := #[.slice A0_0 l0_0.length c0_0, .int .i64 a0_1]) (t := 25) ?_; intro gb258 hg w10 hbox hb; have BK258 := M_ (hbox); have GW258 := M_ (gw_ HB hg); have GE258 := M_ (gw_ HB hg); replace HB := M_ (bS_ HB hb); clear hb hbox hg; obtain ⟨hcz11_0, hcz11_1, hfz11_0, hfz11_1⟩ := bq2_ BK258) | ((with_reducible refine gc_ 23 ?_); refine gM_ (some 5) Tryz.func23 #[.agg #[.slice A0_0 l0_0.length c0_0, .int .i64 a0_1]] ?_; (with_reducible refine (impl_IsInstrument.calls k _ _ l0_0 a0_1 false _ ?side1 ?side2 A2.out).mono ?_); (case side1 => exact cU_ (Kd.C_below HR0_0.out HB.out)); (case side2 => exact HC0_0.out); rintro e w12 ⟨rfl, hb⟩; refine ⟨_, rfl, ?_⟩; replace BK258 := M_ (kb_ BK258 hb); replace HB := M_ (bS_ HB hb); clear hb))
  go_ret2
  exact ⟨eR_, bU_ HB⟩

def spec_l1In.f (a0 : Int) (a1 : Int) (a2 : Int) : Option (Bool) := if a0 ≥ a1 then (some (decide (a0 ≤ a2))) else (some false)
set_option maxHeartbeats 8000000 in
set_option maxRecDepth 100000 in
theorem spec_l1In.calls (a0 : Int) (a1 : Int) (a2 : Int) (r : Bool) (w : World) (h : spec_l1In.f a0 a1 a2 = some r) :
  Calls Tryz.prog 42 #[.int .i64 a0, .int .i64 a1, .int .i64 a2] w fun e w' => e = .returned (.bool r) ∧ Drawn0 w w' := by
 have H : (if a0 ≥ a1 then (some (decide (a0 ≤ a2))) else (some false)) = some r := h
 clear h
 by_cases c4 : a0 ≥ a1
 ·rw [if_pos c4] at H
  have c4b0 : decide (a1 ≤ a0) = true := decide_eq_true c4
  clear c4;obtain rfl := Option.some.inj H
  go_enter Tryz.func42, Tryz.ntmps42
  go_wp2
  go_ret
  exact ⟨by first | rfl | (simp; done) | (simp [*]; done), by repeat (first | exact Drawn0.refl _ | apply Drawn0.step)⟩
 ·rw [if_neg c4] at H
  have c4b0 : decide (a1 ≤ a0) = false := decide_eq_false c4
  clear c4;obtain rfl := Option.some.inj H
  go_enter Tryz.func42, Tryz.ntmps42
  go_wp2
  go_ret
  exact ⟨by first | rfl | (simp; done) | (simp [*]; done), by repeat (first | exact Drawn0.refl _ | apply Drawn0.step)⟩

def spec_l1Rising.l0 : Nat → List Int → Int → Int → List Int → Int → Int → Option (Bool)
 | 0, _, _, _, _, _, _ => none
 | k + 1, x0, x1, x2, x9, x10, x11 => if x11 < x10 then (if 0 ≤ x11 then (if x11 < (x9.length : Int) then ((spec_l1In.f (rd x9 x11) x1 x2).bind fun t262 => (if t262 = true then (if x11 > 0 then (if 0 ≤ (wrap64 (x11 - 1)) then (if (wrap64 (x11 - 1)) < (x0.length : Int) then (if (rd x0 (wrap64 (x11 - 1))) ≥ (rd x9 x11) then (some false) else (spec_l1Rising.l0 k x0 x1 x2 x9 x10 (wrap64 (x11 + 1)))) else (none)) else (none)) else (spec_l1Rising.l0 k x0 x1 x2 x9 x10 (wrap64 (x11 + 1)))) else (some false))) else (none)) else (none)) else (some true)
def spec_l1Rising.f (k : Nat) (l0 : List Int) (a1 : Int) (a2 : Int) : Option (Bool) := spec_l1Rising.l0 k l0 a1 a2 l0 (l0.length : Int) 0
theorem spec_l1Rising.mono_l : ∀ k, (∀ y0 y1 y2 y3 y4 y5, LeO (spec_l1Rising.l0 k y0 y1 y2 y3 y4 y5) (spec_l1Rising.l0 (k + 1) y0 y1 y2 y3 y4 y5))
 | 0 => fun _ _ _ _ _ _ r h => by simp [spec_l1Rising.l0] at h
 | k + 1 => by
  have ih0 := spec_l1Rising.mono_l k
  ·intro y0 y1 y2 y3 y4 y5
   unfold spec_l1Rising.l0
   exact mo_
theorem spec_l1Rising.mono : ∀ a0 a1 a2 k, LeO (spec_l1Rising.f k a0 a1 a2) (spec_l1Rising.f (k + 1) a0 a1 a2) := by
 intro a0 a1 a2 k;have ih0 := spec_l1Rising.mono_l k
 unfold spec_l1Rising.f
 exact mo_
set_option maxHeartbeats 8000000 in
set_option maxRecDepth 100000 in
theorem spec_l1Rising.calls (k : Nat) (A0 : Option Addr) (c0 : Nat) (l0 : List Int) (a1 : Int) (a2 : Int) (r : Bool) (w : World) (hr0 : Kd.C (Kd.int .i64) w A0 l0.length l0) (hc0 : l0.length ≤ c0) (h : spec_l1Rising.f k l0 a1 a2 = some r) :
  Calls Tryz.prog 55 #[.slice A0 l0.length c0, .int .i64 a1, .int .i64 a2] w fun e w' => e = .returned (.bool r) ∧ Drawn0 w w' := by
 have HR0 := M_ hr0;have HC0 := M_ hc0;clear hr0 hc0
 have H : (spec_l1Rising.l0 k l0 a1 a2 l0 (l0.length : Int) 0) = some r := h
 clear h
 have H' := M_ H
 clear H
 go_enter Tryz.func55, Tryz.ntmps55
 go_wp2
 go_loopg [11] k (fun kq v11 w' => ∃ (x11_1 : Int), v11 = .int .i64 x11_1 ∧ Aside0 (spec_l1Rising.l0 kq l0 a1 a2 l0 (l0.length : Int) x11_1 = some r) ∧ Aside0 (kq ≤ k) ∧ Drawn0 w w')
 case atStart => exact ⟨(0), eD_, H', ⟨Nat.le_refl _⟩, by repeat (first | exact Drawn0.refl _ | apply Drawn0.step)⟩
 case round =>
  clear H';obtain ⟨x11_1, rfl, HA, HK1, ⟨m1, rfl⟩⟩ := hrel
  cases gk with
  | zero => exact absurd HA.out (by simp [spec_l1Rising.l0])
  | succ k1 =>
   have H := HA.out;clear HA;simp only [spec_l1Rising.l0] at H
   by_cases c4 : x11_1 < (l0.length : Int)
   ·rw [if_pos c4] at H
    have c4b0 : decide (x11_1 < (l0.length : Int)) = true := decide_eq_true c4
    clear c4
    by_cases c5 : 0 ≤ x11_1
    ·rw [if_pos c5] at H
     have c5b0 : decide (0 ≤ x11_1) = true := decide_eq_true c5
     clear c5
     by_cases c6 : x11_1 < (l0.length : Int)
     ·rw [if_pos c6] at H
      have c6b0 : decide (x11_1 < (l0.length : Int)) = true := decide_eq_true c6
      clear c6;replace H := Option.bind_eq_some_iff.mp H;obtain ⟨t262, A70, H⟩ := H;(try dsimp only at H);have A7 := M_ A70;clear A70
      by_cases c8 : t262 = true
      ·subst c8
       rw [if_pos rfl] at H
       by_cases c9 : x11_1 > 0
       ·rw [if_pos c9] at H
        have c9b0 : decide (0 < x11_1) = true := decide_eq_true c9
        clear c9;obtain ⟨ji10, hji10⟩ : ∃ j_ : Int, (wrap64 (x11_1 - 1)) = j_ := ⟨_, rfl⟩
        replace H : (if 0 ≤ (ji10) then (if (ji10) < (l0.length : Int) then (if (rd l0 (ji10)) ≥ (rd l0 x11_1) then (some false) else (spec_l1Rising.l0 k1 l0 a1 a2 l0 (l0.length : Int) (wrap64 (x11_1 + 1)))) else (none)) else (none)) = some r := by first | (rw [hji10] at H; exact H) | (simp only [hji10] at H ⊢; exact H)
        (try rw [hji10] at A7)
        have hji10w : (IntKind.i64.wrap (x11_1 - 1)) = ji10 := (i64_w _).trans hji10
        by_cases c11 : 0 ≤ (ji10)
        ·rw [if_pos c11] at H
         have c11b0 : decide (0 ≤ (ji10)) = true := decide_eq_true c11
         clear c11
         by_cases c12 : (ji10) < (l0.length : Int)
         ·rw [if_pos c12] at H
          have c12b0 : decide ((ji10) < (l0.length : Int)) = true := decide_eq_true c12
          clear c12
          by_cases c13 : (rd l0 (ji10)) ≥ (rd l0 x11_1)
          ·rw [if_pos c13] at H
           have c13b0 : decide ((rd l0 x11_1) ≤ (rd l0 (ji10))) = true := decide_eq_true c13
           clear c13;obtain rfl := Option.some.inj H
           have p261 : 0 ≤ (x11_1 : Int) := dT_
           have q261 : x11_1 < (l0.length : Int) := dT_
           obtain ⟨ad261, e261, hx261_0⟩ := Kd.at_int HR0.out x11_1 p261 q261;cases e261;replace p261 := eq_true p261;replace q261 := eq_true q261
           go_wp2_with (first | ((with_reducible refine gc_ 42 ?_); refine gM_ (some 19) Tryz.func42 #[.int .i64 (rd l0 x11_1), .int .i64 a1, .int .i64 a2] ?_; (with_reducible refine (spec_l1In.calls (rd l0 x11_1) a1 a2 true _ A7.out).mono ?_); rintro e w' ⟨rfl, ⟨nd, rfl⟩⟩; refine ⟨_, rfl, ?_⟩; have p263 : 0 ≤ ((ji10) : Int) := dT_; have q263 : (ji10) < (l0.length : Int) := dT_; obtain ⟨ad263, e263, hx263_0⟩ := Kd.at_int HR0.out (ji10) p263 q263; obtain rfl : ad261 = ad263 := (by injection e263); replace p263 := eq_true p263; replace q263 := eq_true q263))
           go_ret
           exact ⟨by first | rfl | (simp; done) | (simp only [← hji10] <;> (first | rfl | simp)) | (simp [*]; done), by repeat (first | exact Drawn0.refl _ | apply Drawn0.step)⟩
          ·rw [if_neg c13] at H
           have c13b0 : decide ((rd l0 x11_1) ≤ (rd l0 (ji10))) = false := decide_eq_false c13
           clear c13
           have H' := M_ H
           clear H
           have p261 : 0 ≤ (x11_1 : Int) := dT_
           have q261 : x11_1 < (l0.length : Int) := dT_
           obtain ⟨ad261, e261, hx261_0⟩ := Kd.at_int HR0.out x11_1 p261 q261;cases e261;replace p261 := eq_true p261;replace q261 := eq_true q261
           go_wp2_with (first | ((with_reducible refine gc_ 42 ?_); refine gM_ (some 19) Tryz.func42 #[.int .i64 (rd l0 x11_1), .int .i64 a1, .int .i64 a2] ?_; (with_reducible refine (spec_l1In.calls (rd l0 x11_1) a1 a2 true _ A7.out).mono ?_); rintro e w' ⟨rfl, ⟨nd, rfl⟩⟩; refine ⟨_, rfl, ?_⟩; have p263 : 0 ≤ ((ji10) : Int) := dT_; have q263 : (ji10) < (l0.length : Int) := dT_; obtain ⟨ad263, e263, hx263_0⟩ := Kd.at_int HR0.out (ji10) p263 q263; obtain rfl : ad261 = ad263 := (by injection e263); replace p263 := eq_true p263; replace q263 := eq_true q263))
           go_roundg k1
           case measure => have := HK1.out; omega
           case rel => exact ⟨(wrap64 (x11_1 + 1)), eD_, H', ⟨by have := HK1.out; omega⟩, by repeat (first | exact Drawn0.refl _ | apply Drawn0.step)⟩
         ·rw [if_neg c12] at H
          exact absurd H (by simp)
        ·rw [if_neg c11] at H
         exact absurd H (by simp)
       ·rw [if_neg c9] at H
        have c9b0 : decide (0 < x11_1) = false := decide_eq_false c9
        clear c9
        have H' := M_ H
        clear H
        have p261 : 0 ≤ (x11_1 : Int) := dT_
        have q261 : x11_1 < (l0.length : Int) := dT_
        obtain ⟨ad261, e261, hx261_0⟩ := Kd.at_int HR0.out x11_1 p261 q261;cases e261;replace p261 := eq_true p261;replace q261 := eq_true q261
        go_wp2_with (first | ((with_reducible refine gc_ 42 ?_); refine gM_ (some 19) Tryz.func42 #[.int .i64 (rd l0 x11_1), .int .i64 a1, .int .i64 a2] ?_; (with_reducible refine (spec_l1In.calls (rd l0 x11_1) a1 a2 true _ A7.out).mono ?_); rintro e w' ⟨rfl, ⟨nd, rfl⟩⟩; refine ⟨_, rfl, ?_⟩))
        go_roundg k1
        case measure => have := HK1.out; omega
        case rel => exact ⟨(wrap64 (x11_1 + 1)), eD_, H', ⟨by have := HK1.out; omega⟩, by repeat (first | exact Drawn0.refl _ | apply Drawn0.step)⟩
      ·replace c8 := Bool.eq_false_iff.mpr c8
       subst c8
       rw [if_neg (show ¬ (false = true) by decide)] at H
       obtain rfl := Option.some.inj H
       have p261 : 0 ≤ (x11_1 : Int) := dT_
       have q261 : x11_1 < (l0.length : Int) := dT_
       obtain ⟨ad261, e261, hx261_0⟩ := Kd.at_int HR0.out x11_1 p261 q261;cases e261;replace p261 := eq_true p261;replace q261 := eq_true q261
       go_wp2_with (first | ((with_reducible refine gc_ 42 ?_); refine gM_ (some 19) Tryz.func42 #[.int .i64 (rd l0 x11_1), .int .i64 a1, .int .i64 a2] ?_; (with_reducible refine (spec_l1In.calls (rd l0 x11_1) a1 a2 false _ A7.out).mono ?_); rintro e w' ⟨rfl, ⟨nd, rfl⟩⟩; refine ⟨_, rfl, ?_⟩))
       go_ret
       exact ⟨by first | rfl | (simp; done) | (simp [*]; done), by repeat (first | exact Drawn0.refl _ | apply Drawn0.step)⟩
     ·rw [if_neg c6] at H
      exact absurd H (by simp)
    ·rw [if_neg c5] at H
     exact absurd H (by simp)
   ·rw [if_neg c4] at H
    have c4b0 : decide (x11_1 < (l0.length : Int)) = false := decide_eq_false c4
    clear c4;obtain rfl := Option.some.inj H
    go_wp2
    go_ret
    exact ⟨by first | rfl | (simp; done) | (simp [*]; done), by repeat (first | exact Drawn0.refl _ | apply Drawn0.step)⟩

end Go.Proofs.YtpkklbjdhmpjnaaGreatDoor.PFnInstruments
