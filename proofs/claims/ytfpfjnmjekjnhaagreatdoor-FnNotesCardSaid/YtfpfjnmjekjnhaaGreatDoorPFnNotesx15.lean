-- by wip/xprint.py, over the kit's printer
import Derived.Test.YtfpfjnmjekjnhaaGreatDoorPFnNotesx0
import Derived.Test.YtfpfjnmjekjnhaaGreatDoorPFnNotesx9
import Derived.Test.YtfpfjnmjekjnhaaGreatDoorPFnNotesx12
import Derived.Test.YtfpfjnmjekjnhaaGreatDoorPFnNotesx13
import Derived.Test.YtfpfjnmjekjnhaaGreatDoorPFnNotesx14
namespace Go.Proofs.YtfpfjnmjekjnhaaGreatDoor.PFnNotes
open Go.RowKit Go.Proofs.YtfpfjnmjekjnhaaGreatDoorW.PrintWords Go.Proofs.YtfpfjnmjekjnhaaGreatDoorW.PrintLast Go.Proofs.YtfpfjnmjekjnhaaGreatDoorW.PrintMore
attribute [local go_sem] max2_int min2_int max_two min_two max_three min_three max_four min_four   -- for this text's walks alone
set_option linter.unusedVariables false
set_option linter.unusedSimpArgs false

mutual
def impl_ParseScore.j0 : Nat → List ByteArray → Bool → Option ((List (S31)) × Bool)
 | 0, _, _ => none
 | k + 1, x4, x25 => if x25 = true then (some (([] : List (S31)), false)) else (impl_ParseScore.l0 k (([] : List (S31))) x4 (x4.length : Int) 0)
def impl_ParseScore.l0 : Nat → List (S31) → List ByteArray → Int → Int → Option ((List (S31)) × Bool)
 | 0, _, _, _, _ => none
 | k + 1, x6, x27, x28, x29 => if x29 < x28 then (if 0 ≤ x29 then (if x29 < (x27.length : Int) then ((strings_Cut.f (rdOf ByteArray.empty x27 x29) (⟨#[32]⟩ : ByteArray)).bind fun bt567 => ((impl_numberLine.f k bt567.2.1 2).bind fun bt570 => (if bt567.2.2 = true then (if bt570.2 = true then ((impl_pitchNamed.f k bt567.1).bind fun t574 => (if 0 < (bt570.1.length : Int) then (if 1 < (bt570.1.length : Int) then (if x6.length < 5864062014805 then (impl_ParseScore.l0 k (x6 ++ [(⟨t574, rd bt570.1 0, rd bt570.1 1⟩ : S31)]) x27 x28 (wrap64 (x29 + 1))) else (none)) else (none)) else (none))) else (some (([] : List (S31)), false))) else (some (([] : List (S31)), false))))) else (none)) else (none)) else ((impl_scoreOf.f k x6).bind fun bt562 => (some (bt562.1, bt562.2)))
end
def impl_ParseScore.f (k : Nat) (a0 : ByteArray) : Option ((List (S31)) × Bool) := (impl_textLines.f a0).bind fun bt555 => (if bt555.2 = true then (impl_ParseScore.j0 k bt555.1 (decide ((bt555.1.length : Int) > 30))) else (impl_ParseScore.j0 k bt555.1 true))
theorem impl_ParseScore.mono_l : ∀ k, (∀ y0 y1, LeO (impl_ParseScore.j0 k y0 y1) (impl_ParseScore.j0 (k + 1) y0 y1)) ∧ (∀ y0 y1 y2 y3, LeO (impl_ParseScore.l0 k y0 y1 y2 y3) (impl_ParseScore.l0 (k + 1) y0 y1 y2 y3))
 | 0 => ⟨fun _ _ r h => by simp [impl_ParseScore.j0] at h, fun _ _ _ _ r h => by simp [impl_ParseScore.l0] at h⟩
 | k + 1 => by
  obtain ⟨ih0, ih1⟩ := impl_ParseScore.mono_l k;refine ⟨?_, ?_⟩
  ·intro y0 y1
   unfold impl_ParseScore.j0
   have m0_ := @impl_numberLine.mono;have m1_ := @impl_pitchNamed.mono;have m2_ := @impl_scoreOf.mono;exact mo_
  ·intro y0 y1 y2 y3
   unfold impl_ParseScore.l0
   have m0_ := @impl_numberLine.mono;have m1_ := @impl_pitchNamed.mono;have m2_ := @impl_scoreOf.mono;exact mo_
theorem impl_ParseScore.mono : ∀ a0 k, LeO (impl_ParseScore.f k a0) (impl_ParseScore.f (k + 1) a0) := by
 intro a0 k;obtain ⟨ih0, ih1⟩ := impl_ParseScore.mono_l k
 unfold impl_ParseScore.f
 have m0_ := @impl_numberLine.mono;have m1_ := @impl_pitchNamed.mono;have m2_ := @impl_scoreOf.mono;exact mo_
def impl_ParseScore.T12 : Bool × List (List Nat × List Nat) := (true, [([], []), ([], []), ([1], [1]), ([], []), ([3], [3]), ([4], [4]), ([], []), ([6], [6]), ([7], [7]), ([2, 5, 8], [2, 5, 8]), ([9], [9]), ([0, 10, 2], [0, 10]), ([11, 11, 0, 1, 2, 3, 4, 5, 6, 7, 8, 9, 10, 11], [0, 11])])
def impl_ParseScore.B12 : List Nat := [0, 0, 2, 0, 8, 24, 0, 64, 192, 510, 1022, 2047, 4095]
theorem impl_ParseScore.tab12 : rtab .any (opsOf Tryz.f22 12) = impl_ParseScore.T12 := by kernel_rfl
theorem impl_ParseScore.bits12 : waitsOk impl_ParseScore.T12.2 impl_ParseScore.B12 = true := by kernel_rfl
set_option maxHeartbeats 8000000 in
set_option maxRecDepth 100000 in
theorem impl_ParseScore.calls (k : Nat) (a0 : ByteArray) (r1 : List (S31)) (r2 : Bool) (w : World) (hM : ∃ m, w.cell? ⟨0, 0, none⟩ = some (.int .i64 m)) (h : impl_ParseScore.f k a0 = some (r1, r2)) :
  Calls Tryz.prog 22 #[.string a0] w fun e w' => ∃ v0_ : Value, e = .returned (.tuple #[v0_, .bool r2]) ∧ Kd.R k31 31 w' w.heap.size (fun _ => True) v0_ r1 ∧ Below w.heap.size w w' := by
 have hu31 := Tryz.underlying31;have HM := M_ hM;clear hM;have HB := M_ (Below.refl w.heap.size w)
 have H : ((impl_textLines.f a0).bind fun bt555 => (if bt555.2 = true then (impl_ParseScore.j0 k bt555.1 (decide ((bt555.1.length : Int) > 30))) else (impl_ParseScore.j0 k bt555.1 true))) = some (r1, r2) := h
 clear h;replace H := Option.bind_eq_some_iff.mp H;obtain ⟨⟨t555, t556⟩, A20, H⟩ := H;(try dsimp only at H);have A2 := M_ A20;clear A20;have HC3 := M_ H;clear H
 go_enter Tryz.func22, Tryz.ntmps22
 go_upto_region 2 with (first | ((with_reducible refine gc_ 62 ?_); refine gM_ (some 16) Tryz.func62 #[.string a0] ?_; (with_reducible refine (impl_textLines.calls a0 t555 t556 _ (someInt_ HM.out (bU_ HB)) A2.out).mono ?_); rintro e w4 ⟨v557, rfl, ho0, hb⟩; refine ⟨_, rfl, ?_⟩; have HO558 := M_ (Kd.R_lower ho0 (bZ_ HB)); replace HB := M_ (bS_ HB hb); clear hb ho0))
 (try simp only [Act.put, la_, lb_, lc_])
 go_cut [25] (fun v25 wc => ∃ (kq : Nat) (x25_2 : Bool), v25 = .bool x25_2 ∧ Aside0 (impl_ParseScore.j0 kq t555 x25_2 = some (r1, r2)) ∧ Aside0 (kq ≤ k) ∧ Aside0 (Kd.R Kd.string 9 wc w.heap.size (fun _ => True) v557 t555) ∧ Aside0 (Below w.heap.size w wc))
 case first =>
  have H := HC3.out;clear HC3
  by_cases c5 : t556 = true
  ·subst c5
   rw [if_pos rfl] at H
   have H' := M_ H
   clear H;obtain ⟨Ao6, co6, eo6⟩ := Kd.R_slice HO558.out;subst eo6
   go_wp2
   go_meet
   case rel => exact ⟨_, (decide ((t555.length : Int) > 30)), eD_, H', ⟨by first | omega | exact Nat.le_refl _⟩, ⟨rU_ HO558.out⟩, ⟨bU_ HB⟩⟩
  ·replace c5 := Bool.eq_false_iff.mpr c5
   subst c5
   rw [if_neg (show ¬ (false = true) by decide)] at H
   have H' := M_ H
   clear H
   go_wp2
   go_meet
   case rel => exact ⟨_, (true), eD_, H', ⟨by first | omega | exact Nat.le_refl _⟩, ⟨rU_ HO558.out⟩, ⟨bU_ HB⟩⟩
 case rest =>
  clear HC3;obtain ⟨kq, x25_2, rfl, HA, HJ2, HO_4, HB⟩ := hcut
  cases kq with
  | zero => exact absurd HA.out (by simp [impl_ParseScore.j0])
  | succ kj2 =>
   have H := HA.out;clear HA;simp only [impl_ParseScore.j0] at H
   by_cases c7 : x25_2 = true
   focus
    subst c7
    rw [if_pos rfl] at H
    simp only [Option.some.injEq, Prod.mk.injEq] at H;obtain ⟨rfl, rfl⟩ := H
   rotate_left
   focus
    replace c7 := Bool.eq_false_iff.mpr c7
    subst c7
    rw [if_neg (show ¬ (false = true) by decide)] at H
    obtain ⟨y559, hy559⟩ : ∃ y_ : List (S31), y_ = (([] : List (S31))) := ⟨_, rfl⟩
    replace H : (impl_ParseScore.l0 kj2 y559 t555 (t555.length : Int) 0) = some (r1, r2) := by first | (rw [hy559]; with_reducible exact H) | (have H2_ := (Option.bind_some _ _).symm.trans H; rw [hy559]; with_reducible exact H2_) | (have H2_ := (Option.bind_some _ _).symm.trans H; with_reducible exact H2_) | with_reducible exact H | (rw [hy559]; exact H) | exact H
    have Ny559 := M_ hy559;clear hy559
    have H' := M_ H
    clear H
   rotate_left
   all_goals
    go_wp2_with (first | ((with_reducible refine gate_dst (N := 26) rfl ?_); (try (refine gate_guard (by rfl) ?_; dsimp only)); refine lt_ k31 31 (N := 26) (([] : List (S31))) [] (Reps.none _ _) ?_; intro v560 w8 ho9 hb hg_ hnew_; clear hg_ hnew_; replace ho9 := rN_ Ny559 ho9; replace HO_4 := M_ (rB_ HO_4 hb); have HO561 := M_ (Kd.R_lower ho9 (bZ_ HB)); replace HB := M_ (bS_ HB hb); clear hb ho9; obtain ⟨Ao10, co10, eo10⟩ := Kd.R_slice HO_4.out; subst eo10))
   ·go_ret2
    exact ⟨_, eR_, by first | exact Kd.R_nil _ _ _ _ _ | exact Kd.N_nil _ _ _ _ _ | exact Kd.V_nil _ _ _ _ _ | exact Kd.Q_nil _ _ _ _ _ | exact Kd.S_nil _ _ _ _ _, bU_ HB⟩
   ·go_loopg [6, 29] kj2 (fun kq v6 v29 w' => ∃ (x6_2 : List (S31)) (x29_2 : Int), v29 = .int .i64 x29_2 ∧ Aside0 (impl_ParseScore.l0 kq x6_2 t555 (t555.length : Int) x29_2 = some (r1, r2)) ∧ Aside0 (kq ≤ kj2) ∧ Aside0 (Kd.R k31 31 w' w.heap.size (fun _ => True) v6 x6_2) ∧ Aside0 (Kd.R Kd.string 9 w' w.heap.size (fun _ => True) (.slice Ao10 t555.length co10) t555) ∧ Aside0 (Below w.heap.size w w'))
    case atStart => exact ⟨(y559), (0), eD_, H', ⟨Nat.le_refl _⟩, ⟨rU_ HO561.out⟩, ⟨rU_ HO_4.out⟩, ⟨bU_ HB⟩⟩
    case round =>
     clear H';obtain ⟨x6_2, x29_2, rfl, HA, HK2, HO_6, HO_27, HB⟩ := hrel
     cases gk with
     | zero => exact absurd HA.out (by simp [impl_ParseScore.l0])
     | succ k2 =>
      have H := HA.out;clear HA;simp only [impl_ParseScore.l0] at H
      by_cases c11 : x29_2 < (t555.length : Int)
      ·rw [if_pos c11] at H
       have c11b0 : decide (x29_2 < (t555.length : Int)) = true := decide_eq_true c11
       clear c11
       by_cases c12 : 0 ≤ x29_2
       ·rw [if_pos c12] at H
        have c12b0 : decide (0 ≤ x29_2) = true := decide_eq_true c12
        clear c12
        by_cases c13 : x29_2 < (t555.length : Int)
        ·rw [if_pos c13] at H
         have c13b0 : decide (x29_2 < (t555.length : Int)) = true := decide_eq_true c13
         clear c13;replace H := Option.bind_eq_some_iff.mp H;obtain ⟨⟨t567, t568, t569⟩, A140, H⟩ := H;(try dsimp only at H);have A14 := M_ A140;clear A140;replace H := Option.bind_eq_some_iff.mp H;obtain ⟨⟨t570, t571⟩, A150, H⟩ := H;(try dsimp only at H);have A15 := M_ A150;clear A150
         by_cases c16 : t569 = true
         ·subst c16
          rw [if_pos rfl] at H
          by_cases c17 : t571 = true
          ·subst c17
           rw [if_pos rfl] at H
           replace H := Option.bind_eq_some_iff.mp H;obtain ⟨t574, A180, H⟩ := H;(try dsimp only at H);have A18 := M_ A180;clear A180
           by_cases c19 : 0 < (t570.length : Int)
           ·rw [if_pos c19] at H
            have c19b0 : decide (0 < (t570.length : Int)) = true := decide_eq_true c19
            have c19b1 : decide (0 < t570.length) = true := decide_eq_true (by omega)
            clear c19
            by_cases c20 : 1 < (t570.length : Int)
            ·rw [if_pos c20] at H
             have c20b0 : decide (1 < (t570.length : Int)) = true := decide_eq_true c20
             have c20b1 : decide (1 < t570.length) = true := decide_eq_true (by omega)
             clear c20
             by_cases c21 : x6_2.length < 5864062014805
             ·rw [if_pos c21] at H
              have LMc21 := M_ c21;clear c21;obtain ⟨y577, hy577⟩ : ∃ y_ : List (S31), y_ = (x6_2 ++ [(⟨t574, rd t570 0, rd t570 1⟩ : S31)]) := ⟨_, rfl⟩
              replace H : (impl_ParseScore.l0 k2 y577 t555 (t555.length : Int) (wrap64 (x29_2 + 1))) = some (r1, r2) := by first | (rw [hy577]; with_reducible exact H) | (have H2_ := (Option.bind_some _ _).symm.trans H; rw [hy577]; with_reducible exact H2_) | (have H2_ := (Option.bind_some _ _).symm.trans H; with_reducible exact H2_) | with_reducible exact H | (rw [hy577]; exact H) | exact H
              have Ny577 := M_ hy577;clear hy577
              have H' := M_ H
              clear H
              have p566 : 0 ≤ (x29_2 : Int) := dT_
              have q566 : x29_2 < (t555.length : Int) := dT_
              obtain ⟨ad566, e566, hx566_0⟩ := Kd.at_string (Kd.R_reads' HO_27.out).2.2 x29_2 p566 q566;cases e566;replace p566 := eq_true p566;replace q566 := eq_true q566
              try go_wp2_with (first | ((with_reducible refine gc_ 63 ?_); refine gM_ (some 35) Tryz.func63 #[.string (rdOf ByteArray.empty t555 x29_2), .string (⟨#[32]⟩ : ByteArray)] ?_; (with_reducible refine (strings_Cut.calls (rdOf ByteArray.empty t555 x29_2) (⟨#[32]⟩ : ByteArray) t567 t568 true _ (someInt_ HM.out (bU_ HB)) A14.out).mono ?_); rintro e w22 ⟨rfl, hb⟩; refine ⟨_, rfl, ?_⟩; replace HO_6 := M_ (rB_ HO_6 hb); replace HO_27 := M_ (rB_ HO_27 hb); replace HB := M_ (bS_ HB hb); clear hb) | ((with_reducible refine gc_ 64 ?_); refine gM_ (some 41) Tryz.func64 #[.string t568, .int .i64 2] ?_; (with_reducible refine (impl_numberLine.calls k2 t568 2 t570 true _ (someInt_ HM.out (bU_ HB)) A15.out).mono ?_); rintro e w23 ⟨v572, rfl, ho0, hb⟩; refine ⟨_, rfl, ?_⟩; replace HO_6 := M_ (rB_ HO_6 hb); replace HO_27 := M_ (rB_ HO_27 hb); have HO573 := M_ (Kd.R_lower ho0 (bZ_ HB)); replace HB := M_ (bS_ HB hb); clear hb ho0))
              replace HO_6 := M_ (rd_ HO_6.out); replace HO_27 := M_ (rd_ HO_27.out); replace HO573 := M_ (rd_ HO573.out); replace HB := M_ (b1_ HB.out);obtain ⟨Ao25, co25, eo25⟩ := Kd.R_slice HO573.out
              (first | subst eo25 | (injection eo25 with f1_ f2_ f3_; have f4_ := f1_.symm; have f5_ := f3_.symm; clear f1_ f2_ f3_; subst f4_; subst f5_))
              have p575 : 0 ≤ (0 : Int) := (by omega)
              have q575 : 0 < (t570.length : Int) := dT_
              obtain ⟨ad575, e575, hx575_0⟩ := Kd.at_int (Kd.R_reads' HO573.out).2.2 0 p575 q575;cases e575
              have qi575 : (0 < t570.length) = True := eq_true (by omega)
              (try rw [show ((0 : Int)).toNat = 0 from rfl] at hx575_0)
              (try rw [Addr.add_zero'] at hx575_0)
              replace p575 := eq_true p575;replace q575 := eq_true q575
              have p576 : 0 ≤ (1 : Int) := (by omega)
              have q576 : 1 < (t570.length : Int) := dT_
              obtain ⟨ad576, e576, hx576_0⟩ := Kd.at_int (Kd.R_reads' HO573.out).2.2 1 p576 q576;obtain rfl : ad575 = ad576 := (by injection e576)
              (try simp only [show (1 : Int).toNat = 1 from rfl, Nat.reduceMul, Nat.reduceEqDiff, Go.Addr.add, ↓reduceIte] at hx576_0)
              have qi576 : (1 < t570.length) = True := eq_true (by omega)
              (try rw [show ((1 : Int)).toNat = 1 from rfl] at hx576_0)
              replace p576 := eq_true p576;replace q576 := eq_true q576;refine start_ (n := 13) (S := fun w' => w'.cell? ad575 = some (.int .i64 (rd t570 0)) ∧ w'.cell? ⟨ad575.block, ad575.off + 1, none⟩ = some (.int .i64 (rd t570 1))) (ds := [10, 11]) #[F,F,F,F,F,F,F,F,F,F,F,F,F] (by kernel_rfl) rfl rfl ⟨hx575_0, hx576_0⟩ (fun hHeld => ?_); refine with_tabW impl_ParseScore.tab12 impl_ParseScore.bits12 (fun HT_ HW_ => ?_);generalize w23.drew = w24 at HO_6 HO_27 HO573 HB hx575_0 hx576_0 hHeld ⊢;refine pR_ (i := 0) (N := some 50) #[T,F,F,F,F,F,F,F,F,F,F,F,F] ?_;refine pR_ (i := 1) (N := some 51) #[T,T,F,F,F,F,F,F,F,F,F,F,F] ?_;refine pR_ (i := 3) (N := some 53) #[T,T,F,T,F,F,F,F,F,F,F,F,F] ?_;refine pR_ (i := 4) (N := some 54) #[T,T,F,T,T,F,F,F,F,F,F,F,F] ?_;refine pR_ (i := 6) (N := some 56) #[T,T,F,T,T,F,T,F,F,F,F,F,F] ?_;refine pR_ (i := 7) (N := some 57) #[T,T,F,T,T,F,T,T,F,F,F,F,F] ?_;refine take_ (i := 5) (N := some 55) (v := ?_) (a' := ?_) #[T,T,F,T,T,T,T,T,F,F,F,F,F] rfl rfl (take_ofW HT_.out HW_.out (by kernel_rfl)) (fun _ _ _ h => h) (Or.inl ⟨by rfl, ?_⟩) hHeld ?_ ?_;rotate_left
              ·rintro w' ⟨s0, s1⟩
               go_simp;with_reducible rfl
              rotate_left
              ·simp only [Act.put, la_, lb_, lc_, i64_w, i32_w]
               rfl
              refine take_ (i := 8) (N := some 58) (v := ?_) (a' := ?_) #[T,T,F,T,T,T,T,T,T,F,F,F,F] rfl rfl (take_ofW HT_.out HW_.out (by kernel_rfl)) (fun _ _ _ h => h) (Or.inl ⟨by rfl, ?_⟩) hHeld ?_ ?_;rotate_left
              ·rintro w' ⟨s0, s1⟩
               go_simp;with_reducible rfl
              rotate_left
              ·simp only [Act.put, la_, lb_, lc_, i64_w, i32_w]
               rfl
              refine one_ (i := 2) (N := some 52) #[T,T,T,T,T,T,T,T,T,F,F,F,F] rfl rfl (one_of HT_.out (by kernel_rfl)) (by decide) (fun K hK => ?_);refine gS_ Tryz.func65 #[.string t567] ?_
              with_reducible refine (impl_pitchNamed.calls k2 t567 t574 _ A18.out).mono ?_
              rintro e w26 ⟨rfl, hb⟩;have HS0_ := (hb.cell (World.block_lt_of_cell? _ _ (hHeld.1))).trans (hHeld.1);have HS1_ := (hb.cell (World.block_lt_of_cell? _ _ (hHeld.2))).trans (hHeld.2);refine ⟨_, rfl, ?_⟩;replace HO_6 := M_ (rB_ HO_6 hb); replace HO_27 := M_ (rB_ HO_27 hb); replace HO573 := M_ (rB_ HO573 hb); replace HB := M_ (bS_ HB hb);clear hb;refine hK.out _ _ ⟨HS0_, HS1_⟩ (fun hHeld => ?_);clear hK K;refine nM_ (some 52) ?_;refine pR_ (i := 9) (N := some 59) #[T,T,T,T,T,T,T,T,T,T,F,F,F] ?_;refine last_ (i := 10) (N := some 60) #[T,T,T,T,T,T,T,T,T,T,T,F,F] rfl rfl (one_of HT_.out (by kernel_rfl)) (by decide) (fun K hK => ?_);refine value_ (w1 := ?_) (v := ?_) (by rfl) rfl ?_ ?_
              rotate_left 2
              ·go_simp
               constructor
               ·rfl
               ·rfl
              refine hK.out _ _ ?_;clear hK K;refine nM_ (some 60) ?_;refine last_ (i := 11) (N := some 61) #[T,T,T,T,T,T,T,T,T,T,T,T,F] rfl rfl (one_of HT_.out (by kernel_rfl)) (by decide) (fun K hK => ?_);refine Kd.R_append_step k31 (w0 := w) w.heap.size (by rfl) (.tmp 50) (.tmp 60) 24 31 (.agg #[(.int .i64 0), (.int .i64 0), (.int .i64 0)]) 24 rfl Tryz.underlying24 info31 rfl (by decide) (by omega) u6 x6_2 (⟨t574, rd t570 0, rd t570 1⟩ : S31) [.int .i64 t574, .int .i64 (rd t570 0), .int .i64 (rd t570 1)] (fun _ => True) (fun _ => False) rfl rfl ?aP (fun _ hk => hk.elim) ?aF ?aO ?aB ?aS ?aL ?_
              (case aP => exact k31_mkM _ _ _ (⟨t574, rd t570 0, rd t570 1⟩ : S31))
              (case aB => exact (bU_ HB))
              (case aF => exact (fun _ _ => trivial))
              (case aO => exact (rU_ HO_6.out))
              (case aS => exact (bZ_ HB))
              (case aL => have := LMc21.out; omega)
              intro v578 w27 ho hb hg hat
              rw [← Ny577.out] at ho
              replace HO_27 := M_ (Kd.R_over' (rU_ HO_27.out) (Kd.R_typed (rU_ HO_6.out)) (by decide) hg); replace HO573 := M_ (Kd.R_over' (rU_ HO573.out) (Kd.R_typed (rU_ HO_6.out)) (by decide) hg); replace HB := M_ (hb); have HO579 := M_ (ho); clear HO_6;clear ho hb hg hat;refine hK.out _ _ ?_;clear hK K;refine nM_ (some 61) ?_;refine pR_ (i := 12) (N := some 6) #[T,T,T,T,T,T,T,T,T,T,T,T,T] ?_;refine done_ (done_of HT_.out (by kernel_rfl)) ?_
              try go_wp2
              go_roundg k2
              case measure => have := HJ2.out; have := HK2.out; omega
              case rel => exact ⟨(y577), (wrap64 (x29_2 + 1)), eD_, H', ⟨by have := HJ2.out; have := HK2.out; omega⟩, ⟨rU_ HO579.out⟩, ⟨rU_ HO_27.out⟩, ⟨bU_ HB⟩⟩
             ·rw [if_neg c21] at H
              exact absurd H (by simp)
            ·rw [if_neg c20] at H
             exact absurd H (by simp)
           ·rw [if_neg c19] at H
            exact absurd H (by simp)
          ·replace c17 := Bool.eq_false_iff.mpr c17
           subst c17
           rw [if_neg (show ¬ (false = true) by decide)] at H
           simp only [Option.some.injEq, Prod.mk.injEq] at H;obtain ⟨rfl, rfl⟩ := H
           have p566 : 0 ≤ (x29_2 : Int) := dT_
           have q566 : x29_2 < (t555.length : Int) := dT_
           obtain ⟨ad566, e566, hx566_0⟩ := Kd.at_string (Kd.R_reads' HO_27.out).2.2 x29_2 p566 q566;cases e566;replace p566 := eq_true p566;replace q566 := eq_true q566
           go_wp2_with (first | ((with_reducible refine gc_ 63 ?_); refine gM_ (some 35) Tryz.func63 #[.string (rdOf ByteArray.empty t555 x29_2), .string (⟨#[32]⟩ : ByteArray)] ?_; (with_reducible refine (strings_Cut.calls (rdOf ByteArray.empty t555 x29_2) (⟨#[32]⟩ : ByteArray) t567 t568 true _ (someInt_ HM.out (bU_ HB)) A14.out).mono ?_); rintro e w28 ⟨rfl, hb⟩; refine ⟨_, rfl, ?_⟩; replace HO_6 := M_ (rB_ HO_6 hb); replace HO_27 := M_ (rB_ HO_27 hb); replace HB := M_ (bS_ HB hb); clear hb) | ((with_reducible refine gc_ 64 ?_); refine gM_ (some 41) Tryz.func64 #[.string t568, .int .i64 2] ?_; (with_reducible refine (impl_numberLine.calls k2 t568 2 t570 false _ (someInt_ HM.out (bU_ HB)) A15.out).mono ?_); rintro e w29 ⟨v572, rfl, ho0, hb⟩; refine ⟨_, rfl, ?_⟩; replace HO_6 := M_ (rB_ HO_6 hb); replace HO_27 := M_ (rB_ HO_27 hb); have HO573 := M_ (Kd.R_lower ho0 (bZ_ HB)); replace HB := M_ (bS_ HB hb); clear hb ho0))
           go_ret2
           exact ⟨_, eR_, by first | exact Kd.R_nil _ _ _ _ _ | exact Kd.N_nil _ _ _ _ _ | exact Kd.V_nil _ _ _ _ _ | exact Kd.Q_nil _ _ _ _ _ | exact Kd.S_nil _ _ _ _ _, bU_ HB⟩
         ·replace c16 := Bool.eq_false_iff.mpr c16
          subst c16
          rw [if_neg (show ¬ (false = true) by decide)] at H
          simp only [Option.some.injEq, Prod.mk.injEq] at H;obtain ⟨rfl, rfl⟩ := H
          have p566 : 0 ≤ (x29_2 : Int) := dT_
          have q566 : x29_2 < (t555.length : Int) := dT_
          obtain ⟨ad566, e566, hx566_0⟩ := Kd.at_string (Kd.R_reads' HO_27.out).2.2 x29_2 p566 q566;cases e566;replace p566 := eq_true p566;replace q566 := eq_true q566
          go_wp2_with (first | ((with_reducible refine gc_ 63 ?_); refine gM_ (some 35) Tryz.func63 #[.string (rdOf ByteArray.empty t555 x29_2), .string (⟨#[32]⟩ : ByteArray)] ?_; (with_reducible refine (strings_Cut.calls (rdOf ByteArray.empty t555 x29_2) (⟨#[32]⟩ : ByteArray) t567 t568 false _ (someInt_ HM.out (bU_ HB)) A14.out).mono ?_); rintro e w30 ⟨rfl, hb⟩; refine ⟨_, rfl, ?_⟩; replace HO_6 := M_ (rB_ HO_6 hb); replace HO_27 := M_ (rB_ HO_27 hb); replace HB := M_ (bS_ HB hb); clear hb) | ((with_reducible refine gc_ 64 ?_); refine gM_ (some 41) Tryz.func64 #[.string t568, .int .i64 2] ?_; (with_reducible refine (impl_numberLine.calls k2 t568 2 t570 t571 _ (someInt_ HM.out (bU_ HB)) A15.out).mono ?_); rintro e w31 ⟨v572, rfl, ho0, hb⟩; refine ⟨_, rfl, ?_⟩; replace HO_6 := M_ (rB_ HO_6 hb); replace HO_27 := M_ (rB_ HO_27 hb); have HO573 := M_ (Kd.R_lower ho0 (bZ_ HB)); replace HB := M_ (bS_ HB hb); clear hb ho0))
          go_ret2
          exact ⟨_, eR_, by first | exact Kd.R_nil _ _ _ _ _ | exact Kd.N_nil _ _ _ _ _ | exact Kd.V_nil _ _ _ _ _ | exact Kd.Q_nil _ _ _ _ _ | exact Kd.S_nil _ _ _ _ _, bU_ HB⟩
        ·rw [if_neg c13] at H
         exact absurd H (by simp)
       ·rw [if_neg c12] at H
        exact absurd H (by simp)
      ·rw [if_neg c11] at H
       have c11b0 : decide (x29_2 < (t555.length : Int)) = false := decide_eq_false c11
       clear c11;replace H := Option.bind_eq_some_iff.mp H;obtain ⟨⟨t562, t565⟩, A320, H⟩ := H;replace H : (some (t562, t565)) = some (r1, r2) := H;have A32 := M_ A320;clear A320;simp only [Option.some.injEq, Prod.mk.injEq] at H;obtain ⟨rfl, rfl⟩ := H;obtain ⟨Ao33, co33, eo33⟩ := Kd.R_slice HO_6.out;subst eo33
       go_wp2_with (first | ((with_reducible refine gc_ 43 ?_); refine gM_ (some 64) Tryz.func43 #[.slice Ao33 x6_2.length co33] ?_; (with_reducible refine (impl_scoreOf.calls k2 (fun k_ => some k_ = (.slice Ao33 x6_2.length co33 : Value).ownBlock) (.slice Ao33 x6_2.length co33) x6_2 t562 t565 w _ ?side1 ?side2 A32.out).mono ?_); (case side1 => exact bU_ HB); (case side2 => exact Kd.R_tight rfl HO_6.out); rintro e w34 ⟨v563, rfl, ho0, hb, hkp⟩; refine ⟨_, rfl, ?_⟩; replace HO_27 := M_ (rm_ (ok' := fun k_ => True) (Kd.R_keptB ((Kd.R_apart' HO_27.out (Kd.R_typed HO_6.out) (by decide))) hkp (fun k_ hk_ hs_ => (hk_.2) hs_)) (fun k_ hk_ => trivial)); have HO564 := M_ (rm_ (ok' := fun k_ => True) ho0 (fun k_ hk_ => trivial)); replace HB := M_ (hb); clear HO_6; (try clear hb); (try clear hkp); (try clear ho0)))
       go_ret2
       exact ⟨_, eR_, rU_ HO564.out, bU_ HB⟩
def spec_l1Split.l0 : Nat → ByteArray → Int → List ByteArray → Int → Int → Option (List ByteArray)
 | 0, _, _, _, _, _ => none
 | k + 1, x0, x1, x5, x6, x7 => if x7 < (x0.size : Int) then (if 0 ≤ x7 then (if (bt x0 x7) = x1 then (if 0 ≤ x6 then (if x6 ≤ x7 then (if x7 ≤ (x0.size : Int) then (if x5.length < 8796093022208 then (spec_l1Split.l0 k x0 x1 (x5 ++ [x0.extract (x6 : Int).toNat (x7 : Int).toNat]) (wrap64 (x7 + 1)) (wrap64 (x7 + 1))) else (none)) else (none)) else (none)) else (none)) else (spec_l1Split.l0 k x0 x1 x5 x6 (wrap64 (x7 + 1)))) else (none)) else (if 0 ≤ x6 then (if x6 ≤ (x0.size : Int) then (if x5.length < 8796093022208 then (some (x5 ++ [x0.extract (x6 : Int).toNat x0.size])) else (none)) else (none)) else (none))
def spec_l1Split.f (k : Nat) (a0 : ByteArray) (a1 : Int) : Option (List ByteArray) := spec_l1Split.l0 k a0 a1 ([] : List ByteArray) 0 0
theorem spec_l1Split.mono_l : ∀ k, (∀ y0 y1 y2 y3 y4, LeO (spec_l1Split.l0 k y0 y1 y2 y3 y4) (spec_l1Split.l0 (k + 1) y0 y1 y2 y3 y4))
 | 0 => fun _ _ _ _ _ r h => by simp [spec_l1Split.l0] at h
 | k + 1 => by
  have ih0 := spec_l1Split.mono_l k
  ·intro y0 y1 y2 y3 y4
   unfold spec_l1Split.l0
   exact mo_
theorem spec_l1Split.mono : ∀ a0 a1 k, LeO (spec_l1Split.f k a0 a1) (spec_l1Split.f (k + 1) a0 a1) := by
 intro a0 a1 k;have ih0 := spec_l1Split.mono_l k
 unfold spec_l1Split.f
 exact mo_
set_option maxHeartbeats 8000000 in
set_option maxRecDepth 100000 in
theorem spec_l1Split.calls (k : Nat) (a0 : ByteArray) (a1 : Int) (r : List ByteArray) (w : World) (h : spec_l1Split.f k a0 a1 = some r) :
  Calls Tryz.prog 92 #[.string a0, .int .u8 a1] w fun e w' => ∃ v0_ : Value, e = .returned (v0_) ∧ Kd.R Kd.string 9 w' w.heap.size (fun _ => True) v0_ r ∧ Below w.heap.size w w' := by
 have HB := M_ (Below.refl w.heap.size w)
 have H : (spec_l1Split.l0 k a0 a1 ([] : List ByteArray) 0 0) = some r := h
 clear h
 have H' := M_ H
 clear H
 go_enter Tryz.func92, Tryz.ntmps92
 go_wp2
 go_loopg [5, 6, 7] k (fun kq v5 v6 v7 w' => ∃ (x5_1 : List ByteArray) (x6_1 : Int) (x7_1 : Int), v6 = .int .i64 x6_1 ∧ v7 = .int .i64 x7_1 ∧ Aside0 (spec_l1Split.l0 kq a0 a1 x5_1 x6_1 x7_1 = some r) ∧ Aside0 (kq ≤ k) ∧ Aside0 (Kd.R Kd.string 9 w' w.heap.size (fun _ => True) v5 x5_1) ∧ Aside0 (Below w.heap.size w w'))
 case atStart => exact ⟨(([] : List ByteArray)), (0), (0), eD_, eD_, H', ⟨Nat.le_refl _⟩, ⟨by first | exact Kd.R_nil _ _ _ _ _ | exact Kd.N_nil _ _ _ _ _ | exact Kd.V_nil _ _ _ _ _ | exact Kd.Q_nil _ _ _ _ _ | exact Kd.S_nil _ _ _ _ _⟩, ⟨bU_ HB⟩⟩
 case round =>
  clear H';obtain ⟨x5_1, x6_1, x7_1, rfl, rfl, HA, HK1, HO_5, HB⟩ := hrel
  cases gk with
  | zero => exact absurd HA.out (by simp [spec_l1Split.l0])
  | succ k1 =>
   have H := HA.out;clear HA;simp only [spec_l1Split.l0] at H
   by_cases c3 : x7_1 < (a0.size : Int)
   ·rw [if_pos c3] at H
    have c3b0 : decide (x7_1 < (a0.size : Int)) = true := decide_eq_true c3
    clear c3
    by_cases c4 : 0 ≤ x7_1
    ·rw [if_pos c4] at H
     have c4b0 : decide (0 ≤ x7_1) = true := decide_eq_true c4
     clear c4
     by_cases c6 : (bt a0 x7_1) = a1
     ·rw [if_pos c6] at H
      have c6b0 : ((bt a0 x7_1) == a1) = true := beq_iff_eq.mpr c6
      have c6b1 : ((bt a0 x7_1) != a1) = false := bne_eq_false_iff_eq.mpr c6
      clear c6
      by_cases c7 : 0 ≤ x6_1
      ·rw [if_pos c7] at H
       have c7b0 := eq_true c7
       have c7b1 : decide (0 ≤ x6_1) = true := decide_eq_true c7
       clear c7
       by_cases c8 : x6_1 ≤ x7_1
       ·rw [if_pos c8] at H
        have c8b0 := eq_true c8
        have c8b1 : decide (x6_1 ≤ x7_1) = true := decide_eq_true c8
        clear c8
        by_cases c9 : x7_1 ≤ (a0.size : Int)
        ·rw [if_pos c9] at H
         have c9b0 := eq_true c9
         have c9b1 : decide (x7_1 ≤ (a0.size : Int)) = true := decide_eq_true c9
         clear c9
         by_cases c10 : x5_1.length < 8796093022208
         ·rw [if_pos c10] at H
          have LMc10 := M_ c10;clear c10;obtain ⟨y580, hy580⟩ : ∃ y_ : List ByteArray, y_ = (x5_1 ++ [a0.extract (x6_1 : Int).toNat (x7_1 : Int).toNat]) := ⟨_, rfl⟩
          replace H : (spec_l1Split.l0 k1 a0 a1 y580 (wrap64 (x7_1 + 1)) (wrap64 (x7_1 + 1))) = some r := by first | (rw [hy580]; with_reducible exact H) | (have H2_ := (Option.bind_some _ _).symm.trans H; rw [hy580]; with_reducible exact H2_) | (have H2_ := (Option.bind_some _ _).symm.trans H; with_reducible exact H2_) | with_reducible exact H | (rw [hy580]; exact H) | exact H
          have Ny580 := M_ hy580;clear hy580
          have H' := M_ H
          clear H
          have p5 : 0 ≤ (x7_1 : Int) := dT_
          have q5 : x7_1 < (a0.size : Int) := dT_
          have hx5 := bt_at a0 x7_1;replace p5 := eq_true p5;replace q5 := eq_true q5
          go_wp2_with (first | ((with_reducible refine gate_builtin (b := .append) (xs := #[.tmp 19, .tmp 24]) rfl ?_); at_builtin; refine Kd.R_append Kd.string (w0 := w) w.heap.size rfl (.tmp 19) (.tmp 24) 72 9 (.string ⟨#[]⟩) 16 rfl Tryz.underlying72 info9 rfl (by decide) (by omega) u5 x5_1 (a0.extract (x6_1 : Int).toNat (x7_1 : Int).toNat) [.string (a0.extract (x6_1 : Int).toNat (x7_1 : Int).toNat)] (fun _ => True) (fun _ => False) rfl rfl ?aP (fun _ hk => hk.elim) ?aF ?aO ?aB ?aS ?aL ?_; (case aP => exact rfl); (case aB => exact (bU_ HB)); (case aF => exact (fun _ _ => trivial)); (case aO => exact (rU_ HO_5.out)); (case aS => exact (bZ_ HB)); (case aL => have := LMc10.out; omega); intro v581 w11 ho hb hg hat; rw [← Ny580.out] at ho; replace HB := M_ (hb); have HO582 := M_ (ho); clear HO_5; clear ho hb hg hat))
          go_roundg k1
          case measure => have := HK1.out; omega
          case rel => exact ⟨(y580), (wrap64 (x7_1 + 1)), (wrap64 (x7_1 + 1)), eD_, eD_, H', ⟨by have := HK1.out; omega⟩, ⟨rU_ HO582.out⟩, ⟨bU_ HB⟩⟩
         ·rw [if_neg c10] at H
          exact absurd H (by simp)
        ·rw [if_neg c9] at H
         exact absurd H (by simp)
       ·rw [if_neg c8] at H
        exact absurd H (by simp)
      ·rw [if_neg c7] at H
       exact absurd H (by simp)
     ·rw [if_neg c6] at H
      have c6b0 : ((bt a0 x7_1) == a1) = false := beq_eq_false_iff_ne.mpr c6
      have c6b1 : ((bt a0 x7_1) != a1) = true := bne_iff_ne.mpr c6
      have H' := M_ H
      clear H
      have p5 : 0 ≤ (x7_1 : Int) := dT_
      have q5 : x7_1 < (a0.size : Int) := dT_
      have hx5 := bt_at a0 x7_1;replace p5 := eq_true p5;replace q5 := eq_true q5
      go_wp2
      go_roundg k1
      case measure => have := HK1.out; omega
      case rel => exact ⟨(x5_1), (x6_1), (wrap64 (x7_1 + 1)), eD_, eD_, H', ⟨by have := HK1.out; omega⟩, ⟨rU_ HO_5.out⟩, ⟨bU_ HB⟩⟩
    ·rw [if_neg c4] at H
     exact absurd H (by simp)
   ·rw [if_neg c3] at H
    have c3b0 : decide (x7_1 < (a0.size : Int)) = false := decide_eq_false c3
    clear c3
    by_cases c12 : 0 ≤ x6_1
    ·rw [if_pos c12] at H
     have c12b0 := eq_true c12
     have c12b1 : decide (0 ≤ x6_1) = true := decide_eq_true c12
     clear c12
     by_cases c13 : x6_1 ≤ (a0.size : Int)
     ·rw [if_pos c13] at H
      have c13b0 := eq_true c13
      have c13b1 : decide (x6_1 ≤ (a0.size : Int)) = true := decide_eq_true c13
      clear c13
      by_cases c14 : x5_1.length < 8796093022208
      ·rw [if_pos c14] at H
       have LMc14 := M_ c14;clear c14;obtain ⟨y583, hy583⟩ : ∃ y_ : List ByteArray, y_ = (x5_1 ++ [a0.extract (x6_1 : Int).toNat a0.size]) := ⟨_, rfl⟩
       replace H : (some y583) = some r := by first | (rw [hy583]; with_reducible exact H) | (have H2_ := (Option.bind_some _ _).symm.trans H; rw [hy583]; with_reducible exact H2_) | (have H2_ := (Option.bind_some _ _).symm.trans H; with_reducible exact H2_) | with_reducible exact H | (rw [hy583]; exact H) | exact H
       have Ny583 := M_ hy583;clear hy583;obtain rfl := Option.some.inj H
       go_wp2_with (first | ((with_reducible refine gate_builtin (b := .append) (xs := #[.tmp 28, .tmp 32]) rfl ?_); at_builtin; refine Kd.R_append Kd.string (w0 := w) w.heap.size rfl (.tmp 28) (.tmp 32) 72 9 (.string ⟨#[]⟩) 16 rfl Tryz.underlying72 info9 rfl (by decide) (by omega) u5 x5_1 (a0.extract (x6_1 : Int).toNat a0.size) [.string (a0.extract (x6_1 : Int).toNat a0.size)] (fun _ => True) (fun _ => False) rfl rfl ?aP (fun _ hk => hk.elim) ?aF ?aO ?aB ?aS ?aL ?_; (case aP => exact rfl); (case aB => exact (bU_ HB)); (case aF => exact (fun _ _ => trivial)); (case aO => exact (rU_ HO_5.out)); (case aS => exact (bZ_ HB)); (case aL => have := LMc14.out; omega); intro v584 w15 ho hb hg hat; rw [← Ny583.out] at ho; replace HB := M_ (hb); have HO585 := M_ (ho); clear HO_5; clear ho hb hg hat))
       go_ret
       exact ⟨_, eR_, rU_ HO585.out, bU_ HB⟩
      ·rw [if_neg c14] at H
       exact absurd H (by simp)
     ·rw [if_neg c13] at H
      exact absurd H (by simp)
    ·rw [if_neg c12] at H
     exact absurd H (by simp)
def spec_ntRead.l0 : Nat → ByteArray → Int → Option (Int)
 | 0, _, _ => none
 | k + 1, x0, x3 => if x3 ≤ 96 then ((spec_ntName.f k x3).bind fun t586 => (if t586.toList = x0.toList then (some x3) else (spec_ntRead.l0 k x0 (wrap64 (x3 + 1))))) else (some (-1))
def spec_ntRead.f (k : Nat) (a0 : ByteArray) : Option (Int) := spec_ntRead.l0 k a0 24
theorem spec_ntRead.mono_l : ∀ k, (∀ y0 y1, LeO (spec_ntRead.l0 k y0 y1) (spec_ntRead.l0 (k + 1) y0 y1))
 | 0 => fun _ _ r h => by simp [spec_ntRead.l0] at h
 | k + 1 => by
  have ih0 := spec_ntRead.mono_l k
  ·intro y0 y1
   unfold spec_ntRead.l0
   have m0_ := @spec_ntName.mono;exact mo_
theorem spec_ntRead.mono : ∀ a0 k, LeO (spec_ntRead.f k a0) (spec_ntRead.f (k + 1) a0) := by
 intro a0 k;have ih0 := spec_ntRead.mono_l k
 unfold spec_ntRead.f
 have m0_ := @spec_ntName.mono;exact mo_
set_option maxHeartbeats 8000000 in
set_option maxRecDepth 100000 in
theorem spec_ntRead.calls (k : Nat) (a0 : ByteArray) (r : Int) (w : World) (h : spec_ntRead.f k a0 = some r) :
  Calls Tryz.prog 93 #[.string a0] w fun e w' => e = .returned (.int .i64 r) ∧ Below w.heap.size w w' := by
 have HB := M_ (Below.refl w.heap.size w)
 have H : (spec_ntRead.l0 k a0 24) = some r := h
 clear h
 have H' := M_ H
 clear H
 go_enter Tryz.func93, Tryz.ntmps93
 go_wp2
 go_loopg [3] k (fun kq v3 w' => ∃ (x3_1 : Int), v3 = .int .i64 x3_1 ∧ Aside0 (spec_ntRead.l0 kq a0 x3_1 = some r) ∧ Aside0 (kq ≤ k) ∧ Aside0 (Below w.heap.size w w'))
 case atStart => exact ⟨(24), eD_, H', ⟨Nat.le_refl _⟩, ⟨bU_ HB⟩⟩
 case round =>
  clear H';obtain ⟨x3_1, rfl, HA, HK1, HB⟩ := hrel
  cases gk with
  | zero => exact absurd HA.out (by simp [spec_ntRead.l0])
  | succ k1 =>
   have H := HA.out;clear HA;simp only [spec_ntRead.l0] at H
   by_cases c2 : x3_1 ≤ 96
   ·rw [if_pos c2] at H
    have c2b0 : decide (x3_1 ≤ 96) = true := decide_eq_true c2
    clear c2;replace H := Option.bind_eq_some_iff.mp H;obtain ⟨t586, A30, H⟩ := H;(try dsimp only at H);have A3 := M_ A30;clear A30
    by_cases c4 : t586.toList = a0.toList
    focus
     rw [if_pos c4] at H
     have c4b0 : (t586.toList == a0.toList) = true := beq_iff_eq.mpr c4
     have c4b1 : (t586.toList != a0.toList) = false := bne_eq_false_iff_eq.mpr c4
     clear c4;obtain rfl := Option.some.inj H
    rotate_left
    focus
     rw [if_neg c4] at H
     have c4b0 : (t586.toList == a0.toList) = false := beq_eq_false_iff_ne.mpr c4
     have c4b1 : (t586.toList != a0.toList) = true := bne_iff_ne.mpr c4
     have H' := M_ H
     clear H
    rotate_left
    all_goals
     go_wp2_with (first | ((with_reducible refine gc_ 57 ?_); refine gM_ (some 9) Tryz.func57 #[.int .i64 x3_1] ?_; (with_reducible refine (spec_ntName.calls k1 x3_1 t586 _ A3.out).mono ?_); rintro e w5 ⟨rfl, hb⟩; refine ⟨_, rfl, ?_⟩; replace HB := M_ (bS_ HB hb); clear hb))
    ·go_ret
     exact ⟨eR_, bU_ HB⟩
    ·go_roundg k1
     case measure => have := HK1.out; omega
     case rel => exact ⟨(wrap64 (x3_1 + 1)), eD_, H', ⟨by have := HK1.out; omega⟩, ⟨bU_ HB⟩⟩
   ·rw [if_neg c2] at H
    have c2b0 : decide (x3_1 ≤ 96) = false := decide_eq_false c2
    clear c2;obtain rfl := Option.some.inj H
    go_wp2
    go_ret
    exact ⟨eR_, bU_ HB⟩
end Go.Proofs.YtfpfjnmjekjnhaaGreatDoor.PFnNotes
