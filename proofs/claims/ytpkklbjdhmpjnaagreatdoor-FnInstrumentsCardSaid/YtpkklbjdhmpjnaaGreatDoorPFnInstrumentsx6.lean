-- by wip/xprint.py, over the kit's printer
import Derived.Test.YtpkklbjdhmpjnaaGreatDoorPFnInstrumentsx0
import Derived.Test.YtpkklbjdhmpjnaaGreatDoorPFnInstrumentsx1
import Derived.Test.YtpkklbjdhmpjnaaGreatDoorPFnInstrumentsx3
namespace Go.Proofs.YtpkklbjdhmpjnaaGreatDoor.PFnInstruments
open Go.RowKit Go.Proofs.YtpkklbjdhmpjnaaGreatDoorW.PrintWords Go.Proofs.YtpkklbjdhmpjnaaGreatDoorW.PrintLast Go.Proofs.YtpkklbjdhmpjnaaGreatDoorW.PrintMore
attribute [local go_sem] max2_int min2_int max_two min_two max_three min_three max_four min_four   -- for this text's walks alone
set_option linter.unusedVariables false
set_option linter.unusedSimpArgs false

def spec_DrawTrackOf.j0 : Nat → Bool → List Int → Int → Int → List Int → Int → Option (List Int × Int × Int)
 | 0, _, _, _, _, _, _ => none
 | k + 1, x18, x295000, x295001, x295002, x302000, x302001 => if x18 = true then ((spec_l1Cur_pick.f x295000 x295001 x295002 (x302000.length : Int)).bind fun bt305 => (if 0 ≤ bt305.1 then (if bt305.1 < (x302000.length : Int) then (some (x302000, x302001, rd x302000 bt305.1)) else (none)) else (none))) else ((spec_l1Cur_among.f x295000 x295001 x295002 (([23, 97] : List Int))).bind fun bt312 => ((spec_l1Cur_among.f x295000 bt312.2.1 bt312.2.2 (([48, 60, 61, 24, 96, bt312.1] : List Int))).bind fun bt318 => (some (x302000, x302001, bt318.1))))
def spec_DrawTrackOf.f (k : Nat) (l0 : List Int) : Option (List Int × Int × Int) := (newCur.f l0).bind fun bt291 => ((spec_l1Cur_anyInstrument.f k bt291.1 bt291.2.1 bt291.2.2).bind fun bt295 => (if (bt295.1.length : Int) > 0 then ((spec_l1Cur_one.f bt291.1 bt295.2.2.1 bt295.2.2.2 2).bind fun bt302 => (spec_DrawTrackOf.j0 k bt302.1 bt291.1 bt302.2.1 bt302.2.2 bt295.1 bt295.2.1)) else (spec_DrawTrackOf.j0 k false bt291.1 bt295.2.2.1 bt295.2.2.2 bt295.1 bt295.2.1)))
theorem spec_DrawTrackOf.mono_l : ∀ k, (∀ y0 y1 y2 y3 y4 y5, LeO (spec_DrawTrackOf.j0 k y0 y1 y2 y3 y4 y5) (spec_DrawTrackOf.j0 (k + 1) y0 y1 y2 y3 y4 y5))
 | 0 => fun _ _ _ _ _ _ r h => by simp [spec_DrawTrackOf.j0] at h
 | k + 1 => by
  have ih0 := spec_DrawTrackOf.mono_l k
  ·intro y0 y1 y2 y3 y4 y5
   unfold spec_DrawTrackOf.j0
   have m0_ := @spec_l1Cur_anyInstrument.mono;exact mo_
theorem spec_DrawTrackOf.mono : ∀ a0 k, LeO (spec_DrawTrackOf.f k a0) (spec_DrawTrackOf.f (k + 1) a0) := by
 intro a0 k;have ih0 := spec_DrawTrackOf.mono_l k
 unfold spec_DrawTrackOf.f
 have m0_ := @spec_l1Cur_anyInstrument.mono;exact mo_
def spec_DrawTrackOf.T4 : Bool × List (List Nat × List Nat) := (true, [([], []), ([], []), ([1], [1]), ([], []), ([], []), ([4], [4]), ([5], [5]), ([3, 6], [3, 6]), ([2, 7], [2, 7]), ([8], [8]), ([0, 7, 0], [0]), ([9, 10, 0, 1, 2, 3, 4, 5, 6, 7, 8, 9, 10], [9])])
def spec_DrawTrackOf.B4 : List Nat := [0, 0, 2, 0, 0, 16, 48, 120, 254, 510, 249, 2047]
theorem spec_DrawTrackOf.tab4 : rtab .any (opsOf Tryz.f29 4) = spec_DrawTrackOf.T4 := by kernel_rfl
theorem spec_DrawTrackOf.bits4 : waitsOk spec_DrawTrackOf.T4.2 spec_DrawTrackOf.B4 = true := by kernel_rfl
def spec_DrawTrackOf.T5 : Bool × List (List Nat × List Nat) := (true, [([], []), ([], []), ([], []), ([], []), ([2, 3], [2, 3]), ([4], [4]), ([1, 5, 4], [1, 5]), ([0, 6, 0], [0]), ([6, 7, 0, 1, 2, 3, 4, 5, 6, 7], [6])])
def spec_DrawTrackOf.B5 : List Nat := [0, 0, 0, 0, 12, 28, 62, 127, 255]
theorem spec_DrawTrackOf.tab5 : rtab .any (opsOf Tryz.f29 5) = spec_DrawTrackOf.T5 := by kernel_rfl
theorem spec_DrawTrackOf.bits5 : waitsOk spec_DrawTrackOf.T5.2 spec_DrawTrackOf.B5 = true := by kernel_rfl
set_option maxHeartbeats 8000000 in
set_option maxRecDepth 100000 in
theorem spec_DrawTrackOf.calls (k : Nat) (A0 : Option Addr) (c0 : Nat) (l0 : List Int) (r1 : List Int) (r2 : Int) (r3 : Int) (w : World) (hr0 : Kd.C (Kd.int .u8) w A0 l0.length l0) (hc0 : l0.length ≤ c0) (h : spec_DrawTrackOf.f k l0 = some (r1, r2, r3)) :
  Calls Tryz.prog 29 #[.slice A0 l0.length c0] w fun e w' => ∃ v0_ : Value, e = .returned (.tuple #[.agg #[v0_, .int .i64 r2], .int .i64 r3]) ∧ Kd.R (Kd.int .i64) 3 w' w.heap.size (fun _ => True) v0_ r1 ∧ Below w.heap.size w w' := by
 have hu25 := Tryz.underlying25;have HR0 := M_ hr0;have HC0 := M_ hc0;clear hr0 hc0;have HB := M_ (Below.refl w.heap.size w)
 have H : ((newCur.f l0).bind fun bt291 => ((spec_l1Cur_anyInstrument.f k bt291.1 bt291.2.1 bt291.2.2).bind fun bt295 => (if (bt295.1.length : Int) > 0 then ((spec_l1Cur_one.f bt291.1 bt295.2.2.1 bt295.2.2.2 2).bind fun bt302 => (spec_DrawTrackOf.j0 k bt302.1 bt291.1 bt302.2.1 bt302.2.2 bt295.1 bt295.2.1)) else (spec_DrawTrackOf.j0 k false bt291.1 bt295.2.2.1 bt295.2.2.2 bt295.1 bt295.2.1)))) = some (r1, r2, r3) := h
 clear h;replace H := Option.bind_eq_some_iff.mp H;obtain ⟨⟨t291, t292, t293⟩, A20, H⟩ := H;(try dsimp only at H);have A2 := M_ A20;clear A20;replace H := Option.bind_eq_some_iff.mp H;obtain ⟨⟨t295, t298, t299, t300⟩, A30, H⟩ := H;(try dsimp only at H);have A3 := M_ A30;clear A30;have HC4 := M_ H;clear H
 go_enter Tryz.func29, Tryz.ntmps29
 go_upto_region 3 with (first | ((with_reducible refine gate_dst (N := 2) rfl ?_); refine bx_ (N := 2) (cs := #[.slice none 0 0, .int .i64 0]) (t := 25) ?_; intro gb290 hg w5 hbox hb; have BK290 := M_ (hbox); have GW290 := M_ (gw_ HB hg); have GE290 := M_ (gw_ HB hg); replace HB := M_ (bS_ HB hb); clear hb hbox hg) | ((with_reducible refine gate_dst (N := 8) rfl ?_); refine bx_ (N := 8) (cs := #[.slice A0 l0.length c0, .int .i64 0, .int .u64 0]) (t := 55) ?_; intro g294 hg w6 hbox hb2; have hb := bS_ HB hb2; have hi := newCur_is A2.out (by exact HR0.out) hbox (by rw [hg]; exact (bZ_ HB)); clear hg hbox; replace HB := M_ (hb); have HI294 := M_ (hi); have NB294_290 := M_ (IsS55.ne_blk hi (kb_ BK290 hb2) (by decide)); have NB290_294 := M_ (Ne.symm (IsS55.ne_blk hi (kb_ BK290 hb2) (by decide))); replace BK290 := M_ (kb_ BK290 hb2); (try clear hb); (try clear hb2); (try clear hk); (try clear hi)) | ((with_reducible refine gc_ 39 ?_); refine gM_ (some 10) Tryz.func39 #[.pointer (some ⟨g294, 0, none⟩)] ?_; (with_reducible refine (spec_l1Cur_anyInstrument.calls k g294 t291 t292 t293 t295 t298 t299 t300 w _ ?side1 ?side2 A3.out).mono ?_); (case side1 => exact iU_ HI294); (case side2 => exact bU_ HB); rintro e w7 ⟨v296, rfl, ho0, hi, hb, hk⟩; refine ⟨_, rfl, ?_⟩; replace BK290 := M_ (kk_ hk BK290 NB290_294); have HO297 := M_ (Kd.R_lower ho0 (bZ_ HB)); replace HB := M_ (hb); replace HI294 := M_ (hi); clear hb hk hi ho0) | ((with_reducible refine gate_dst (N := 5) rfl ?_); refine bx_ (N := 5) (cs := #[.slice none 0 0, .int .i64 0]) (t := 25) ?_; intro gb301 hg w8 hbox hb; replace HO297 := M_ (rB_ HO297 hb); have BK301 := M_ (hbox); have GW301 := M_ (gw_ HB hg); have GE301 := M_ (gw_ HB hg); replace HB := M_ (bS_ HB hb); have NB290_301 := M_ (nb_ BK290 hg); have NB301_290 := M_ ((by rw [hg]; exact Nat.ne_of_gt (blk_lt (kU_ BK290)) : gb301 ≠ gb290)); replace BK290 := M_ (kb_ BK290 hb); have NB294_301 := M_ ((by rw [hg]; exact Nat.ne_of_lt (IsS55.lt (show IsS55 w _ g294 t291 t299 t300 from iU_ HI294)) : g294 ≠ gb301)); have NB301_294 := M_ ((by rw [hg]; exact Nat.ne_of_gt (IsS55.lt (show IsS55 w _ g294 t291 t299 t300 from iU_ HI294)) : gb301 ≠ g294)); replace HI294 := M_ (IsS55.below (iU_ HI294) hb); clear hb hbox hg; obtain ⟨Ao9, co9, eo9⟩ := Kd.R_slice HO297.out; subst eo9; have hnb10 := NB301_290.out; have hnc10 := NB290_301.out; have hnb11 := NB301_294.out; have hnc11 := NB294_301.out; obtain ⟨hcz12_0, hcz12_1, hfz12_0, hfz12_1⟩ := bq2_ BK301))
 (try simp only [Act.put, la_, lb_, lc_])
 go_cut [18] (fun v18 wc => ∃ (kq : Nat) (x18_3 : Bool) (x295001_3 : Int) (x295002_3 : Int), v18 = .bool x18_3 ∧ Aside0 (spec_DrawTrackOf.j0 kq x18_3 t291 x295001_3 x295002_3 t295 t298 = some (r1, r2, r3)) ∧ Aside0 (kq ≤ k) ∧ Aside0 (Kd.R (Kd.int .i64) 3 wc w.heap.size (fun _ => True) (.slice Ao9 t295.length co9) t295) ∧ Aside0 (wc.heap[gb290]? = some (.cells #[(.slice none 0 0), .int .i64 0] 25 (0, 0))) ∧ Aside0 (wc.heap[gb301]? = some (.cells #[(.slice Ao9 t295.length co9), .int .i64 t298] 25 (0, 0))) ∧ Aside0 (IsS55 w wc g294 t291 x295001_3 x295002_3) ∧ Aside0 (Below w.heap.size w wc))
 case first =>
  have H := HC4.out;clear HC4
  by_cases c13 : (t295.length : Int) > 0
  ·rw [if_pos c13] at H
   have c13b0 : decide (0 < (t295.length : Int)) = true := decide_eq_true c13
   have c13b1 : decide (0 < t295.length) = true := decide_eq_true (by omega)
   clear c13
   (first | rw [c13b0] | (simp only [i64_w, i32_w]; rw [c13b0]) | skip)
   replace H := Option.bind_eq_some_iff.mp H;obtain ⟨⟨t302, t303, t304⟩, A140, H⟩ := H;(try dsimp only at H);have A14 := M_ A140;clear A140
   have H' := M_ H
   clear H;have hnb15 := NB301_290.out;have hnc15 := NB290_301.out;have hnb16 := NB301_294.out;have hnc16 := NB294_301.out;obtain ⟨hcz17_0, hcz17_1, hfz17_0, hfz17_1⟩ := bq2_ BK301
   go_wp2_with (first | (go_at_call 58; (with_reducible refine (spec_l1Cur_one.calls g294 t291 t299 t300 2 t302 t303 t304 w _ ?side1 ?side2 A14.out).mono ?_); (case side1 => exact iU_ HI294); (case side2 => exact bU_ HB); rintro e w18 ⟨rfl, hi, hb, hk⟩; replace BK290 := M_ (KeepBut.blk hk (g' := gb290) (o := .cells #[.slice none 0 0, .int .i64 0] 25 (0, 0)) (by (with_reducible repeat (first | refine kn_ ?_ _ | refine kd_ ?_ | refine ka_ ?_ _)); refine blk_far ?_ NB290_301.out _; (with_reducible repeat (first | refine kn_ ?_ _ | refine kd_ ?_ | refine ka_ ?_ _)); refine blk_far ?_ NB290_301.out _; (with_reducible repeat (first | refine kn_ ?_ _ | refine kd_ ?_ | refine ka_ ?_ _)); exact BK290.out) NB290_294.out (by simp)); replace HO297 := M_ (rm_ (Kd.R_keep (IsS55.apart (show IsS55 w _ g294 t291 t299 t300 from iU_ HI294) (rU_ ((rm_ (Kd.R_far (p := ⟨gb301, 1, none⟩) (Kd.R_far (p := ⟨gb301, 0, none⟩) (rt_ HO297.out BK301.out (by decide)) (fun _ hk => hk.2) (.slice Ao9 t295.length co9)) (fun _ hk => hk.2) (.int .i64 t298)) (fun _ h_ => h_.1)))) (by decide)) hk (fun _ h => h.2)) (fun _ h => h.1)); replace BK301 := M_ (KeepBut.blk hk (g' := gb301) (o := .cells #[.slice Ao9 t295.length co9, .int .i64 t298] 25 (0, 0)) (by (with_reducible repeat (first | refine kn_ ?_ _ | refine kd_ ?_ | refine ka_ ?_ _)); refine blk_put (cs := #[.slice Ao9 t295.length co9, .int .i64 0]) ?_ 1 _ rfl; (with_reducible repeat (first | refine kn_ ?_ _ | refine kd_ ?_ | refine ka_ ?_ _)); refine blk_put (cs := #[.slice none 0 0, .int .i64 0]) ?_ 0 _ rfl; (with_reducible repeat (first | refine kn_ ?_ _ | refine kd_ ?_ | refine ka_ ?_ _)); exact BK301.out) NB301_294.out (by simp)); replace HB := M_ (hb); replace HI294 := M_ (hi); clear hb hk hi))
   go_meet
   case rel => exact ⟨_, (t302), (t303), (t304), eD_, H', ⟨by first | omega | exact Nat.le_refl _⟩, ⟨rU_ HO297.out⟩, ⟨kU_ BK290⟩, ⟨kU_ BK301⟩, ⟨iU_ HI294⟩, ⟨bU_ HB⟩⟩
  ·rw [if_neg c13] at H
   have c13b0 : decide (0 < (t295.length : Int)) = false := decide_eq_false c13
   have c13b1 : decide (0 < t295.length) = false := decide_eq_false (by omega)
   clear c13
   (first | rw [c13b0] | (simp only [i64_w, i32_w]; rw [c13b0]) | skip)
   have H' := M_ H
   clear H;have hnb19 := NB301_290.out;have hnc19 := NB290_301.out;have hnb20 := NB301_294.out;have hnc20 := NB294_301.out;obtain ⟨hcz21_0, hcz21_1, hfz21_0, hfz21_1⟩ := bq2_ BK301
   go_wp2
   go_meet
   case rel => exact ⟨_, (false), (t299), (t300), eD_, H', ⟨by first | omega | exact Nat.le_refl _⟩, ⟨by (with_reducible repeat (first | apply ra_ | apply rn_ | apply rd_)); exact rm_ (Kd.R_far (p := ⟨gb301, 1, none⟩) (Kd.R_far (p := ⟨gb301, 0, none⟩) (rt_ HO297.out BK301.out (by decide)) (fun _ hk => hk.2) (.slice Ao9 t295.length co9)) (fun _ hk => hk.2) (.int .i64 t298)) (fun _ hk => trivial)⟩, ⟨by (with_reducible repeat (first | refine kn_ ?_ _ | refine kd_ ?_ | refine ka_ ?_ _)); refine blk_far ?_ NB290_301.out _; (with_reducible repeat (first | refine kn_ ?_ _ | refine kd_ ?_ | refine ka_ ?_ _)); refine blk_far ?_ NB290_301.out _; (with_reducible repeat (first | refine kn_ ?_ _ | refine kd_ ?_ | refine ka_ ?_ _)); exact BK290.out⟩, ⟨by (with_reducible repeat (first | refine kn_ ?_ _ | refine kd_ ?_ | refine ka_ ?_ _)); refine blk_put (cs := #[.slice Ao9 t295.length co9, .int .i64 0]) ?_ 1 _ rfl; (with_reducible repeat (first | refine kn_ ?_ _ | refine kd_ ?_ | refine ka_ ?_ _)); refine blk_put (cs := #[.slice none 0 0, .int .i64 0]) ?_ 0 _ rfl; (with_reducible repeat (first | refine kn_ ?_ _ | refine kd_ ?_ | refine ka_ ?_ _)); exact BK301.out⟩, ⟨iU_ HI294⟩, ⟨bU_ HB⟩⟩
 case rest =>
  clear HC4;obtain ⟨kq, x18_3, x295001_3, x295002_3, rfl, HA, HJ3, HO_302000, BK290, BK301, HI294, HB⟩ := hcut
  cases kq with
  | zero => exact absurd HA.out (by simp [spec_DrawTrackOf.j0])
  | succ kj3 =>
   have H := HA.out;clear HA;simp only [spec_DrawTrackOf.j0] at H
   by_cases c22 : x18_3 = true
   ·subst c22
    rw [if_pos rfl] at H
    replace H := Option.bind_eq_some_iff.mp H;obtain ⟨⟨t305, t306, t307⟩, A230, H⟩ := H;(try dsimp only at H);have A23 := M_ A230;clear A230
    by_cases c24 : 0 ≤ t305
    ·rw [if_pos c24] at H
     have c24b0 : decide (0 ≤ t305) = true := decide_eq_true c24
     clear c24
     by_cases c25 : t305 < (t295.length : Int)
     ·rw [if_pos c25] at H
      have c25b0 : decide (t305 < (t295.length : Int)) = true := decide_eq_true c25
      clear c25;simp only [Option.some.injEq, Prod.mk.injEq] at H;obtain ⟨rfl, rfl, rfl⟩ := H
      try go_wp2
      replace HO_302000 := M_ (rd_ HO_302000.out); replace BK290 := M_ (kd_ BK290.out); replace BK301 := M_ (kd_ BK301.out); replace HI294 := M_ (IsS55.drew HI294.out); replace HB := M_ (b1_ HB.out)
      have p308 : 0 ≤ (t305 : Int) := dT_
      have q308 : t305 < (t295.length : Int) := dT_
      obtain ⟨ad308, e308, hx308_0⟩ := Kd.at_int (Kd.R_reads' HO_302000.out).2.2 t305 p308 q308;cases e308;replace p308 := eq_true p308;replace q308 := eq_true q308;refine start_ (n := 12) (S := fun w' => w'.cell? ⟨gb301, 0, none⟩ = some (.slice (some ad308) t295.length co9) ∧ w'.cell? ⟨gb301, 1, none⟩ = some (.int .i64 t298) ∧ w'.cell? (ad308.add (t305).toNat) = some (.int .i64 (rd t295 t305))) (ds := []) #[F,F,F,F,F,F,F,F,F,F,F,F] (by kernel_rfl) rfl rfl ⟨bc0_ BK301, bc1_ BK301, hx308_0⟩ (fun hHeld => ?_); refine with_tabW spec_DrawTrackOf.tab4 spec_DrawTrackOf.bits4 (fun HT_ HW_ => ?_);generalize wc.drew = w26 at HO_302000 BK290 BK301 HI294 HB hx308_0 hHeld ⊢;refine pR_ (i := 1) (N := some 20) #[F,T,F,F,F,F,F,F,F,F,F,F] ?_;refine pR_ (i := 3) (N := some 22) #[F,T,F,T,F,F,F,F,F,F,F,F] ?_;refine pR_ (i := 4) (N := some 23) #[F,T,F,T,T,F,F,F,F,F,F,F] ?_;refine take_ (i := 0) (N := some 19) (v := ?_) (a' := ?_) #[T,T,F,T,T,F,F,F,F,F,F,F] rfl rfl (take_ofW HT_.out HW_.out (by kernel_rfl)) (fun _ _ _ h => h) (Or.inl ⟨by rfl, ?_⟩) hHeld ?_ ?_;rotate_left
      ·rintro w' ⟨s0, s1, s2⟩
       go_simp;with_reducible rfl
      rotate_left
      ·simp only [Act.put, la_, lb_, lc_, i64_w, i32_w]
       rfl
      refine take_ (i := 2) (N := some 21) (v := ?_) (a' := ?_) #[T,T,T,T,T,F,F,F,F,F,F,F] rfl rfl (take_ofW HT_.out HW_.out (by kernel_rfl)) (fun _ _ _ h => h) (Or.inl ⟨by rfl, ?_⟩) hHeld ?_ ?_;rotate_left
      ·rintro w' ⟨s0, s1, s2⟩
       go_simp;with_reducible rfl
      rotate_left
      ·simp only [Act.put, la_, lb_, lc_, i64_w, i32_w]
       rfl
      refine take_ (i := 5) (N := some 24) (v := ?_) (a' := ?_) #[T,T,T,T,T,T,F,F,F,F,F,F] rfl rfl (take_ofW HT_.out HW_.out (by kernel_rfl)) (fun _ _ _ h => h) (Or.inl ⟨by rfl, ?_⟩) hHeld ?_ ?_;rotate_left
      ·rintro w' ⟨s0, s1, s2⟩
       go_simp;with_reducible rfl
      rotate_left
      ·simp only [Act.put, la_, lb_, lc_, i64_w, i32_w]
       rfl
      refine pR_ (i := 6) (N := some 25) #[T,T,T,T,T,T,T,F,F,F,F,F] ?_;refine one_ (i := 7) (N := some 26) #[T,T,T,T,T,T,T,T,F,F,F,F] rfl rfl (one_of HT_.out (by kernel_rfl)) (by decide) (fun K hK => ?_);refine gS_ Tryz.func40 #[.pointer (some ⟨g294, 0, none⟩), .int .i64 (t295.length : Int)] ?_
      with_reducible refine (spec_l1Cur_pick.calls g294 t291 x295001_3 x295002_3 (t295.length : Int) t305 t306 t307 w _ ?side1 ?side2 A23.out).mono ?_
      (case side1 => exact iU_ HI294)
      (case side2 => exact bU_ HB)
      rintro e w27 ⟨rfl, hi, hb, hk⟩;have HS2_ := keep_cell hk (hHeld.2.2) (by first | (rw [add_block]; exact Kd.own_blk (IsS55.own_ne HI294.out HO_302000.out (by decide))) | (show (Addr.add _ _).block ≠ _; rw [add_block]; exact Kd.own_blk (IsS55.own_ne HI294.out HO_302000.out (by decide))) | exact Kd.own_blk (IsS55.own_ne HI294.out HO_302000.out (by decide)));refine ⟨_, rfl, ?_⟩;replace HO_302000 := M_ (ik_ HI294 HO_302000 hk); replace BK290 := M_ (kk_ hk BK290 NB290_294); replace BK301 := M_ (kk_ hk BK301 NB301_294); replace HB := M_ (hb); replace HI294 := M_ (hi);clear hb hk hi;refine hK.out _ _ ⟨bc0_ BK301, bc1_ BK301, HS2_⟩ (fun hHeld => ?_);clear hK K;refine nM_ (some 26) ?_;refine pR_ (i := 8) (N := some 27) #[T,T,T,T,T,T,T,T,T,F,F,F] ?_;refine take_ (i := 9) (N := some 28) (v := ?_) (a' := ?_) #[T,T,T,T,T,T,T,T,T,T,F,F] rfl rfl (take_ofW HT_.out HW_.out (by kernel_rfl)) (fun _ _ _ h => h) (Or.inl ⟨by rfl, ?_⟩) hHeld ?_ ?_;rotate_left
      ·rintro w' ⟨s0, s1, s2⟩
       go_simp;with_reducible rfl
      rotate_left
      ·simp only [Act.put, la_, lb_, lc_, i64_w, i32_w]
       rfl
      refine one_ (i := 10) (N := none) #[T,T,T,T,T,T,T,T,T,T,T,F] rfl rfl (one_of HT_.out (by kernel_rfl)) (by decide) (fun K hK => ?_)
      have hs28 : w27.cell? ⟨gb290, 0, none⟩ = some (.slice none 0 0) := bc0_ BK290
      have hfs28 := bf_ BK290 0;have hns28_1 := NB301_290.out;have hms28_1 := NB290_301.out
      have hs29 : w27.cell? ⟨gb290, 1, none⟩ = some (.int .i64 0) := bc1_ BK290
      have hfs29 := bf_ BK290 1;have hns29_1 := NB301_290.out;have hms29_1 := NB290_301.out;refine skip_ (w1 := ?_) (by rfl) rfl ?_ ?_;rotate_left
      ·go_simp
       rfl
      refine hK.out _ _ ⟨((cell_far (p := ⟨gb290, _, none⟩) NB301_290.out _).trans (((cell_far (p := ⟨gb290, _, none⟩) NB301_290.out _).trans (hHeld.1)))), ((cell_far (p := ⟨gb290, _, none⟩) NB301_290.out _).trans (((cell_far (p := ⟨gb290, _, none⟩) NB301_290.out _).trans (hHeld.2.1)))), ((cell_far (p := ⟨gb290, _, none⟩) (ab_ (Kd.own_blk (Kd.R_ne HO_302000.out BK290.out (by decide)))) _).trans (((cell_far (p := ⟨gb290, _, none⟩) (ab_ (Kd.own_blk (Kd.R_ne HO_302000.out BK290.out (by decide)))) _).trans (hHeld.2.2))))⟩ (fun hHeld => ?_);clear hK K;refine pR_ (i := 11) (N := some 3) #[T,T,T,T,T,T,T,T,T,T,T,T] ?_;refine done_ (done_of HT_.out (by kernel_rfl)) ?_
      try go_wp2
      refine bodyPost_ret (results_ct rfl _ _ gb290 25 #[.slice (some ad308) t295.length co9, .int .i64 t298] (0, 0) _ rfl (by (with_reducible repeat (first | refine kn_ ?_ _ | refine kd_ ?_ | refine ka_ ?_ _)); refine blk_put (cs := #[.slice (some ad308) t295.length co9, .int .i64 0]) ?_ 1 _ rfl; (with_reducible repeat (first | refine kn_ ?_ _ | refine kd_ ?_ | refine ka_ ?_ _)); refine blk_put (cs := #[.slice none 0 0, .int .i64 0]) ?_ 0 _ rfl; (with_reducible repeat (first | refine kn_ ?_ _ | refine kd_ ?_ | refine ka_ ?_ _)); exact BK290.out) Tryz.underlying25 rfl (by kernel_rfl)) rfl ?_;exact ⟨_, eR_, by (with_reducible repeat (first | apply ra_ | apply rn_ | apply rd_)); exact rm_ (Kd.R_far (p := ⟨gb290, 1, none⟩) (Kd.R_far (p := ⟨gb290, 0, none⟩) (rt_ HO_302000.out BK290.out (by decide)) (fun _ hk => hk.2) (.slice (some ad308) t295.length co9)) (fun _ hk => hk.2) (.int .i64 t298)) (fun _ hk => trivial), bU_ HB⟩
     ·rw [if_neg c25] at H
      exact absurd H (by simp)
    ·rw [if_neg c24] at H
     exact absurd H (by simp)
   ·replace c22 := Bool.eq_false_iff.mpr c22
    subst c22
    rw [if_neg (show ¬ (false = true) by decide)] at H
    obtain ⟨y309, hy309⟩ : ∃ y_ : List Int, y_ = (([23, 97] : List Int)) := ⟨_, rfl⟩
    replace H : ((spec_l1Cur_among.f t291 x295001_3 x295002_3 y309).bind fun bt312 => ((spec_l1Cur_among.f t291 bt312.2.1 bt312.2.2 (([48, 60, 61, 24, 96, bt312.1] : List Int))).bind fun bt318 => (some (t295, t298, bt318.1)))) = some (r1, r2, r3) := by first | (rw [hy309]; with_reducible exact H) | (have H2_ := (Option.bind_some _ _).symm.trans H; rw [hy309]; with_reducible exact H2_) | (have H2_ := (Option.bind_some _ _).symm.trans H; with_reducible exact H2_) | with_reducible exact H | (rw [hy309]; exact H) | exact H
    have Ny309 := M_ hy309;clear hy309;replace H := Option.bind_eq_some_iff.mp H;obtain ⟨⟨t312, t313, t314⟩, A300, H⟩ := H;(try dsimp only at H);have A30 := M_ A300;clear A300;obtain ⟨y315, hy315⟩ : ∃ y_ : List Int, y_ = (([48, 60, 61, 24, 96, t312] : List Int)) := ⟨_, rfl⟩
    replace H : ((spec_l1Cur_among.f t291 t313 t314 y315).bind fun bt318 => (some (t295, t298, bt318.1))) = some (r1, r2, r3) := by first | (rw [hy315]; with_reducible exact H) | (have H2_ := (Option.bind_some _ _).symm.trans H; rw [hy315]; with_reducible exact H2_) | (have H2_ := (Option.bind_some _ _).symm.trans H; with_reducible exact H2_) | with_reducible exact H | (rw [hy315]; exact H) | exact H
    have Ny315 := M_ hy315;clear hy315;replace H := Option.bind_eq_some_iff.mp H;obtain ⟨⟨t318, t319, t320⟩, A310, H⟩ := H;replace H : (some (t295, t298, t318)) = some (r1, r2, r3) := H;have A31 := M_ A310;clear A310;simp only [Option.some.injEq, Prod.mk.injEq] at H;obtain ⟨rfl, rfl, rfl⟩ := H
    try go_wp2
    replace HO_302000 := M_ (rd_ HO_302000.out); replace BK290 := M_ (kd_ BK290.out); replace BK301 := M_ (kd_ BK301.out); replace HI294 := M_ (IsS55.drew HI294.out); replace HB := M_ (b1_ HB.out);refine start_ (n := 9) (S := fun w' => w'.cell? ⟨gb301, 0, none⟩ = some (.slice Ao9 t295.length co9) ∧ w'.cell? ⟨gb301, 1, none⟩ = some (.int .i64 t298)) (ds := []) #[F,F,F,F,F,F,F,F,F] (by kernel_rfl) rfl rfl ⟨bc0_ BK301, bc1_ BK301⟩ (fun hHeld => ?_); refine with_tabW spec_DrawTrackOf.tab5 spec_DrawTrackOf.bits5 (fun HT_ HW_ => ?_);generalize wc.drew = w32 at HO_302000 BK290 BK301 HI294 HB hHeld ⊢;refine pR_ (i := 1) (N := some 30) #[F,T,F,F,F,F,F,F,F] ?_;refine pR_ (i := 2) (N := some 31) #[F,T,T,F,F,F,F,F,F] ?_;refine take_ (i := 0) (N := some 29) (v := ?_) (a' := ?_) #[T,T,T,F,F,F,F,F,F] rfl rfl (take_ofW HT_.out HW_.out (by kernel_rfl)) (fun _ _ _ h => h) (Or.inl ⟨by rfl, ?_⟩) hHeld ?_ ?_;rotate_left
    ·rintro w' ⟨s0, s1⟩
     go_simp;with_reducible rfl
    rotate_left
    ·simp only [Act.put, la_, lb_, lc_, i64_w, i32_w]
     rfl
    refine one_ (i := 3) (N := some 32) #[T,T,T,T,F,F,F,F,F] rfl rfl (one_of HT_.out (by kernel_rfl)) (by decide) (fun K hK => ?_);refine ls_ (Kd.int .i64) 3 (N := 32) (([23, 97] : List Int)) [.int .i64 23, .int .i64 97] ri_ ?_;intro v310 w33 ho34 hb hg_ hnew_;clear hg_ hnew_;replace ho34 := rN_ Ny309 ho34;have HO311 := M_ (Kd.R_lower (Kd.R_new' ho34 (rl_ HO_302000)) (bZ_ HB)); replace HO_302000 := M_ (re_ HO_302000 ho34 hb); replace BK290 := M_ (kb_ BK290 hb); replace BK301 := M_ (kb_ BK301 hb); replace HI294 := M_ (IsS55.below (iU_ HI294) hb); replace HB := M_ (bS_ HB hb);clear hb ho34;obtain ⟨Ao35, co35, eo35⟩ := Kd.R_slice HO311.out
    (first | subst eo35 | (injection eo35 with f1_ f2_ f3_; have f4_ := f1_.symm; have f5_ := f3_.symm; clear f1_ f2_ f3_; subst f4_; subst f5_))
    refine hK.out _ _ ⟨bc0_ BK301, bc1_ BK301⟩ (fun hHeld => ?_);clear hK K;refine nM_ (some 32) ?_;refine one_ (i := 4) (N := some 33) #[T,T,T,T,T,F,F,F,F] rfl rfl (one_of HT_.out (by kernel_rfl)) (by decide) (fun K hK => ?_);refine gS_ Tryz.func59 #[.pointer (some ⟨g294, 0, none⟩), .slice Ao35 y309.length co35] ?_
    with_reducible refine (spec_l1Cur_among.calls g294 t291 x295001_3 x295002_3 _ _ y309 t312 t313 t314 w _ ?side1 ?side2 ?side3 ?side4 ?side5 A30.out).mono ?_
    (case side1 => exact iU_ HI294)
    (case side2 => exact bU_ HB)
    (case side3 => exact cU_ (Kd.R_reads' HO311.out).2.2)
    (case side4 => exact (Kd.R_reads' HO311.out).2.1)
    (case side5 => exact far_slice (IsS55.own_ne HI294.out HO311.out (by decide)))
    rintro e w36 ⟨rfl, hi, hb, hk⟩;refine ⟨_, rfl, ?_⟩;replace HO_302000 := M_ (ik_ HI294 HO_302000 hk); replace BK290 := M_ (kk_ hk BK290 NB290_294); replace BK301 := M_ (kk_ hk BK301 NB301_294); replace HO311 := M_ (ik_ HI294 HO311 hk); replace HB := M_ (hb); replace HI294 := M_ (hi);clear hb hk hi;refine hK.out _ _ ⟨bc0_ BK301, bc1_ BK301⟩ (fun hHeld => ?_);clear hK K;refine nM_ (some 33) ?_;refine one_ (i := 5) (N := some 34) #[T,T,T,T,T,T,F,F,F] rfl rfl (one_of HT_.out (by kernel_rfl)) (by decide) (fun K hK => ?_);refine ls_ (Kd.int .i64) 3 (N := 34) (([48, 60, 61, 24, 96, t312] : List Int)) [.int .i64 48, .int .i64 60, .int .i64 61, .int .i64 24, .int .i64 96, .int .i64 t312] ri_ ?_;intro v316 w37 ho38 hb hg_ hnew_;clear hg_ hnew_;replace ho38 := rN_ Ny315 ho38;have HO317 := M_ (Kd.R_lower (Kd.R_new' (Kd.R_new' ho38 (rl_ HO_302000)) (rl_ HO311)) (bZ_ HB)); replace HO_302000 := M_ (re_ HO_302000 ho38 hb); replace HO311 := M_ (re_ HO311 ho38 hb); replace BK290 := M_ (kb_ BK290 hb); replace BK301 := M_ (kb_ BK301 hb); replace HI294 := M_ (IsS55.below (iU_ HI294) hb); replace HB := M_ (bS_ HB hb);clear hb ho38;obtain ⟨Ao39, co39, eo39⟩ := Kd.R_slice HO317.out
    (first | subst eo39 | (injection eo39 with f1_ f2_ f3_; have f4_ := f1_.symm; have f5_ := f3_.symm; clear f1_ f2_ f3_; subst f4_; subst f5_))
    refine hK.out _ _ ⟨bc0_ BK301, bc1_ BK301⟩ (fun hHeld => ?_);clear hK K;refine nM_ (some 34) ?_;refine one_ (i := 6) (N := some 35) #[T,T,T,T,T,T,T,F,F] rfl rfl (one_of HT_.out (by kernel_rfl)) (by decide) (fun K hK => ?_);refine gS_ Tryz.func59 #[.pointer (some ⟨g294, 0, none⟩), .slice Ao39 y315.length co39] ?_
    with_reducible refine (spec_l1Cur_among.calls g294 t291 t313 t314 _ _ y315 t318 t319 t320 w _ ?side1 ?side2 ?side3 ?side4 ?side5 A31.out).mono ?_
    (case side1 => exact iU_ HI294)
    (case side2 => exact bU_ HB)
    (case side3 => exact cU_ (Kd.R_reads' HO317.out).2.2)
    (case side4 => exact (Kd.R_reads' HO317.out).2.1)
    (case side5 => exact far_slice (IsS55.own_ne HI294.out HO317.out (by decide)))
    rintro e w40 ⟨rfl, hi, hb, hk⟩;refine ⟨_, rfl, ?_⟩;replace HO_302000 := M_ (ik_ HI294 HO_302000 hk); replace BK290 := M_ (kk_ hk BK290 NB290_294); replace BK301 := M_ (kk_ hk BK301 NB301_294); replace HO311 := M_ (ik_ HI294 HO311 hk); replace HO317 := M_ (ik_ HI294 HO317 hk); replace HB := M_ (hb); replace HI294 := M_ (hi);clear hb hk hi;refine hK.out _ _ ⟨bc0_ BK301, bc1_ BK301⟩ (fun hHeld => ?_);clear hK K;refine nM_ (some 35) ?_;refine one_ (i := 7) (N := none) #[T,T,T,T,T,T,T,T,F] rfl rfl (one_of HT_.out (by kernel_rfl)) (by decide) (fun K hK => ?_)
    have hs41 : w40.cell? ⟨gb290, 0, none⟩ = some (.slice none 0 0) := bc0_ BK290
    have hfs41 := bf_ BK290 0;have hns41_1 := NB301_290.out;have hms41_1 := NB290_301.out
    have hs42 : w40.cell? ⟨gb290, 1, none⟩ = some (.int .i64 0) := bc1_ BK290
    have hfs42 := bf_ BK290 1;have hns42_1 := NB301_290.out;have hms42_1 := NB290_301.out;refine skip_ (w1 := ?_) (by rfl) rfl ?_ ?_;rotate_left
    ·go_simp
     rfl
    refine hK.out _ _ ⟨((cell_far (p := ⟨gb290, _, none⟩) NB301_290.out _).trans (((cell_far (p := ⟨gb290, _, none⟩) NB301_290.out _).trans (hHeld.1)))), ((cell_far (p := ⟨gb290, _, none⟩) NB301_290.out _).trans (((cell_far (p := ⟨gb290, _, none⟩) NB301_290.out _).trans (hHeld.2))))⟩ (fun hHeld => ?_);clear hK K;refine pR_ (i := 8) (N := some 3) #[T,T,T,T,T,T,T,T,T] ?_;refine done_ (done_of HT_.out (by kernel_rfl)) ?_
    try go_wp2
    refine bodyPost_ret (results_ct rfl _ _ gb290 25 #[.slice Ao9 t295.length co9, .int .i64 t298] (0, 0) _ rfl (by (with_reducible repeat (first | refine kn_ ?_ _ | refine kd_ ?_ | refine ka_ ?_ _)); refine blk_put (cs := #[.slice Ao9 t295.length co9, .int .i64 0]) ?_ 1 _ rfl; (with_reducible repeat (first | refine kn_ ?_ _ | refine kd_ ?_ | refine ka_ ?_ _)); refine blk_put (cs := #[.slice none 0 0, .int .i64 0]) ?_ 0 _ rfl; (with_reducible repeat (first | refine kn_ ?_ _ | refine kd_ ?_ | refine ka_ ?_ _)); exact BK290.out) Tryz.underlying25 rfl (by kernel_rfl)) rfl ?_;exact ⟨_, eR_, by (with_reducible repeat (first | apply ra_ | apply rn_ | apply rd_)); exact rm_ (Kd.R_far (p := ⟨gb290, 1, none⟩) (Kd.R_far (p := ⟨gb290, 0, none⟩) (rt_ HO_302000.out BK290.out (by decide)) (fun _ hk => hk.2) (.slice Ao9 t295.length co9)) (fun _ hk => hk.2) (.int .i64 t298)) (fun _ hk => trivial), bU_ HB⟩

def spec_DrawAddPitch.f (k : Nat) (l0 : List Int) : Option (List Int × Int × Int) := (spec_DrawTrackOf.f k l0).bind fun bt322 => (some (bt322.1, bt322.2.1, bt322.2.2))
theorem spec_DrawAddPitch.mono : ∀ a0 k, LeO (spec_DrawAddPitch.f k a0) (spec_DrawAddPitch.f (k + 1) a0) := by
 intro a0 k
 unfold spec_DrawAddPitch.f
 have m0_ := @spec_DrawTrackOf.mono;exact mo_
set_option maxHeartbeats 8000000 in
set_option maxRecDepth 100000 in
theorem spec_DrawAddPitch.calls (k : Nat) (A0 : Option Addr) (c0 : Nat) (l0 : List Int) (r1 : List Int) (r2 : Int) (r3 : Int) (w : World) (hr0 : Kd.C (Kd.int .u8) w A0 l0.length l0) (hc0 : l0.length ≤ c0) (h : spec_DrawAddPitch.f k l0 = some (r1, r2, r3)) :
  Calls Tryz.prog 7 #[.slice A0 l0.length c0] w fun e w' => ∃ v0_ : Value, e = .returned (.tuple #[.agg #[v0_, .int .i64 r2], .int .i64 r3]) ∧ Kd.R (Kd.int .i64) 3 w' w.heap.size (fun _ => True) v0_ r1 ∧ Below w.heap.size w w' := by
 have hu25 := Tryz.underlying25;have HR0 := M_ hr0;have HC0 := M_ hc0;clear hr0 hc0;have HB := M_ (Below.refl w.heap.size w)
 have H : ((spec_DrawTrackOf.f k l0).bind fun bt322 => (some (bt322.1, bt322.2.1, bt322.2.2))) = some (r1, r2, r3) := h
 clear h;replace H := Option.bind_eq_some_iff.mp H;obtain ⟨⟨t322, t325, t326⟩, A20, H⟩ := H;replace H : (some (t322, t325, t326)) = some (r1, r2, r3) := H;have A2 := M_ A20;clear A20;simp only [Option.some.injEq, Prod.mk.injEq] at H;obtain ⟨rfl, rfl, rfl⟩ := H
 go_enter Tryz.func7, Tryz.ntmps7
 go_wp2_with (first | ((with_reducible refine gate_dst (N := 2) rfl ?_); refine bx_ (N := 2) (cs := #[.slice none 0 0, .int .i64 0]) (t := 25) ?_; intro gb321 hg w3 hbox hb; have BK321 := M_ (hbox); have GW321 := M_ (gw_ HB hg); have GE321 := M_ (gw_ HB hg); replace HB := M_ (bS_ HB hb); clear hb hbox hg) | ((with_reducible refine gc_ 29 ?_); refine gM_ (some 5) Tryz.func29 #[.slice A0 l0.length c0] ?_; (with_reducible refine (spec_DrawTrackOf.calls k _ _ l0 t322 t325 t326 _ ?side1 ?side2 A2.out).mono ?_); (case side1 => exact cU_ (Kd.C_below HR0.out HB.out)); (case side2 => exact HC0.out); rintro e w4 ⟨v323, rfl, ho0, hb⟩; refine ⟨_, rfl, ?_⟩; have HO324 := M_ (Kd.R_lower ho0 (bZ_ HB)); replace BK321 := M_ (kb_ BK321 hb); replace HB := M_ (bS_ HB hb); clear hb ho0; obtain ⟨Ao5, co5, eo5⟩ := Kd.R_slice HO324.out; subst eo5; obtain ⟨hcz6_0, hcz6_1, hfz6_0, hfz6_1⟩ := bq2_ BK321))
 refine bodyPost_ret (results_ct rfl _ _ gb321 25 #[.slice Ao5 t322.length co5, .int .i64 t325] (0, 0) _ rfl (by (with_reducible repeat (first | refine kn_ ?_ _ | refine kd_ ?_ | refine ka_ ?_ _)); refine blk_put (cs := #[.slice Ao5 t322.length co5, .int .i64 0]) ?_ 1 _ rfl; (with_reducible repeat (first | refine kn_ ?_ _ | refine kd_ ?_ | refine ka_ ?_ _)); refine blk_put (cs := #[.slice none 0 0, .int .i64 0]) ?_ 0 _ rfl; (with_reducible repeat (first | refine kn_ ?_ _ | refine kd_ ?_ | refine ka_ ?_ _)); exact BK321.out) Tryz.underlying25 rfl (by kernel_rfl)) rfl ?_;exact ⟨_, eR_, by (with_reducible repeat (first | apply ra_ | apply rn_ | apply rd_)); exact rm_ (Kd.R_far (p := ⟨gb321, 1, none⟩) (Kd.R_far (p := ⟨gb321, 0, none⟩) (rt_ HO324.out BK321.out (by decide)) (fun _ hk => hk.2) (.slice Ao5 t322.length co5)) (fun _ hk => hk.2) (.int .i64 t325)) (fun _ hk => trivial), bU_ HB⟩

def slices_Index_int_int.l0 : Nat → List Int → Int → Int → Int → Option (Int)
 | 0, _, _, _, _ => none
 | k + 1, x0, x1, x7, x8 => if x8 < x7 then (if 0 ≤ x8 then (if x8 < (x0.length : Int) then (if x1 = (rd x0 x8) then (some x8) else (slices_Index_int_int.l0 k x0 x1 x7 (wrap64 (x8 + 1)))) else (none)) else (none)) else (some (-1))
def slices_Index_int_int.f (k : Nat) (l0 : List Int) (a1 : Int) : Option (Int) := slices_Index_int_int.l0 k l0 a1 (l0.length : Int) 0
theorem slices_Index_int_int.mono_l : ∀ k, (∀ y0 y1 y2 y3, LeO (slices_Index_int_int.l0 k y0 y1 y2 y3) (slices_Index_int_int.l0 (k + 1) y0 y1 y2 y3))
 | 0 => fun _ _ _ _ r h => by simp [slices_Index_int_int.l0] at h
 | k + 1 => by
  have ih0 := slices_Index_int_int.mono_l k
  ·intro y0 y1 y2 y3
   unfold slices_Index_int_int.l0
   exact mo_
theorem slices_Index_int_int.mono : ∀ a0 a1 k, LeO (slices_Index_int_int.f k a0 a1) (slices_Index_int_int.f (k + 1) a0 a1) := by
 intro a0 a1 k;have ih0 := slices_Index_int_int.mono_l k
 unfold slices_Index_int_int.f
 exact mo_
set_option maxHeartbeats 8000000 in
set_option maxRecDepth 100000 in
theorem slices_Index_int_int.calls (k : Nat) (A0 : Option Addr) (c0 : Nat) (l0 : List Int) (a1 : Int) (r : Int) (w : World) (hr0 : Kd.C (Kd.int .i64) w A0 l0.length l0) (hc0 : l0.length ≤ c0) (h : slices_Index_int_int.f k l0 a1 = some r) :
  Calls Tryz.prog 38 #[.slice A0 l0.length c0, .int .i64 a1] w fun e w' => e = .returned (.int .i64 r) ∧ Drawn0 w w' := by
 have HR0 := M_ hr0;have HC0 := M_ hc0;clear hr0 hc0
 have H : (slices_Index_int_int.l0 k l0 a1 (l0.length : Int) 0) = some r := h
 clear h
 have H' := M_ H
 clear H
 go_enter Tryz.func38, Tryz.ntmps38
 go_wp2
 go_loopg [8] k (fun kq v8 w' => ∃ (x8_1 : Int), v8 = .int .i64 x8_1 ∧ Aside0 (slices_Index_int_int.l0 kq l0 a1 (l0.length : Int) x8_1 = some r) ∧ Aside0 (kq ≤ k) ∧ Drawn0 w w')
 case atStart => exact ⟨(0), eD_, H', ⟨Nat.le_refl _⟩, by repeat (first | exact Drawn0.refl _ | apply Drawn0.step)⟩
 case round =>
  clear H';obtain ⟨x8_1, rfl, HA, HK1, ⟨m1, rfl⟩⟩ := hrel
  cases gk with
  | zero => exact absurd HA.out (by simp [slices_Index_int_int.l0])
  | succ k1 =>
   have H := HA.out;clear HA;simp only [slices_Index_int_int.l0] at H
   by_cases c3 : x8_1 < (l0.length : Int)
   ·rw [if_pos c3] at H
    have c3b0 : decide (x8_1 < (l0.length : Int)) = true := decide_eq_true c3
    clear c3
    by_cases c4 : 0 ≤ x8_1
    ·rw [if_pos c4] at H
     have c4b0 : decide (0 ≤ x8_1) = true := decide_eq_true c4
     clear c4
     by_cases c5 : x8_1 < (l0.length : Int)
     ·rw [if_pos c5] at H
      have c5b0 : decide (x8_1 < (l0.length : Int)) = true := decide_eq_true c5
      clear c5
      by_cases c6 : a1 = (rd l0 x8_1)
      ·rw [if_pos c6] at H
       have c6b0 : (a1 == (rd l0 x8_1)) = true := beq_iff_eq.mpr c6
       have c6b1 : (a1 != (rd l0 x8_1)) = false := bne_eq_false_iff_eq.mpr c6
       clear c6;obtain rfl := Option.some.inj H
       have p327 : 0 ≤ (x8_1 : Int) := dT_
       have q327 : x8_1 < (l0.length : Int) := dT_
       obtain ⟨ad327, e327, hx327_0⟩ := Kd.at_int HR0.out x8_1 p327 q327;cases e327;replace p327 := eq_true p327;replace q327 := eq_true q327
       go_wp2
       go_ret
       exact ⟨by first | rfl | (simp; done) | (simp [*]; done), by repeat (first | exact Drawn0.refl _ | apply Drawn0.step)⟩
      ·rw [if_neg c6] at H
       have c6b0 : (a1 == (rd l0 x8_1)) = false := beq_eq_false_iff_ne.mpr c6
       have c6b1 : (a1 != (rd l0 x8_1)) = true := bne_iff_ne.mpr c6
       have H' := M_ H
       clear H
       have p327 : 0 ≤ (x8_1 : Int) := dT_
       have q327 : x8_1 < (l0.length : Int) := dT_
       obtain ⟨ad327, e327, hx327_0⟩ := Kd.at_int HR0.out x8_1 p327 q327;cases e327;replace p327 := eq_true p327;replace q327 := eq_true q327
       go_wp2
       go_roundg k1
       case measure => have := HK1.out; omega
       case rel => exact ⟨(wrap64 (x8_1 + 1)), eD_, H', ⟨by have := HK1.out; omega⟩, by repeat (first | exact Drawn0.refl _ | apply Drawn0.step)⟩
     ·rw [if_neg c5] at H
      exact absurd H (by simp)
    ·rw [if_neg c4] at H
     exact absurd H (by simp)
   ·rw [if_neg c3] at H
    have c3b0 : decide (x8_1 < (l0.length : Int)) = false := decide_eq_false c3
    clear c3;obtain rfl := Option.some.inj H
    go_wp2
    go_ret
    exact ⟨by first | rfl | (simp; done) | (simp [*]; done), by repeat (first | exact Drawn0.refl _ | apply Drawn0.step)⟩

def slices_Contains_int_int.f (k : Nat) (l0 : List Int) (a1 : Int) : Option (Bool) := (slices_Index_int_int.f k l0 a1).bind fun t328 => (some (decide (t328 ≥ 0)))
theorem slices_Contains_int_int.mono : ∀ a0 a1 k, LeO (slices_Contains_int_int.f k a0 a1) (slices_Contains_int_int.f (k + 1) a0 a1) := by
 intro a0 a1 k
 unfold slices_Contains_int_int.f
 have m0_ := @slices_Index_int_int.mono;exact mo_
set_option maxHeartbeats 8000000 in
set_option maxRecDepth 100000 in
theorem slices_Contains_int_int.calls (k : Nat) (A0 : Option Addr) (c0 : Nat) (l0 : List Int) (a1 : Int) (r : Bool) (w : World) (hr0 : Kd.C (Kd.int .i64) w A0 l0.length l0) (hc0 : l0.length ≤ c0) (h : slices_Contains_int_int.f k l0 a1 = some r) :
  Calls Tryz.prog 31 #[.slice A0 l0.length c0, .int .i64 a1] w fun e w' => e = .returned (.bool r) ∧ Drawn0 w w' := by
 have HR0 := M_ hr0;have HC0 := M_ hc0;clear hr0 hc0
 have H : ((slices_Index_int_int.f k l0 a1).bind fun t328 => (some (decide (t328 ≥ 0)))) = some r := h
 clear h;replace H := Option.bind_eq_some_iff.mp H;obtain ⟨t328, A30, H⟩ := H;replace H : (some (decide (t328 ≥ 0))) = some r := H;have A3 := M_ A30;clear A30;obtain rfl := Option.some.inj H
 go_enter Tryz.func31, Tryz.ntmps31
 go_wp2_with (first | ((with_reducible refine gc_ 38 ?_); refine gM_ (some 7) Tryz.func38 #[.slice A0 l0.length c0, .int .i64 a1] ?_; (with_reducible refine (slices_Index_int_int.calls k _ _ l0 a1 t328 _ ?side1 ?side2 A3.out).mono ?_); (case side1 => exact cU_ HR0.out); (case side2 => exact HC0.out); rintro e w' ⟨rfl, ⟨nd, rfl⟩⟩; refine ⟨_, rfl, ?_⟩))
 go_ret
 exact ⟨by first | rfl | (simp; done) | (simp [*]; done), by repeat (first | exact Drawn0.refl _ | apply Drawn0.step)⟩

def clone_int.f (l0 : List Int) : Option (List Int) := (some (([] : List Int) : List Int)).bind fun y329 => (if y329.length + l0.length < 17592186044416 then (some (y329 ++ l0)) else (none))
set_option maxHeartbeats 8000000 in
set_option maxRecDepth 100000 in
theorem clone_int.calls (A0 : Option Addr) (c0 : Nat) (l0 : List Int) (r : List Int) (w : World) (hr0 : Kd.C (Kd.int .i64) w A0 l0.length l0) (hc0 : l0.length ≤ c0) (h : clone_int.f l0 = some r) :
  Calls Tryz.prog 33 #[.slice A0 l0.length c0] w fun e w' => ∃ v0_ : Value, e = .returned (v0_) ∧ Kd.R (Kd.int .i64) 3 w' w.heap.size (fun _ => True) v0_ r ∧ Below w.heap.size w w' := by
 have HR0 := M_ hr0;have HC0 := M_ hc0;clear hr0 hc0;have HB := M_ (Below.refl w.heap.size w)
 have H : ((some (([] : List Int) : List Int)).bind fun y329 => (if y329.length + l0.length < 17592186044416 then (some (y329 ++ l0)) else (none))) = some r := h
 clear h;obtain ⟨y329, hy329, H⟩ := ob_ H;(try dsimp only at H);have Ny329 := M_ hy329;clear hy329
 by_cases c2 : y329.length + l0.length < 17592186044416
 ·rw [if_pos c2] at H
  have LMc2 := M_ c2;clear c2;obtain ⟨y332, hy332⟩ : ∃ y_ : List Int, y_ = (y329 ++ l0) := ⟨_, rfl⟩
  replace H : (some y332) = some r := by first | (rw [hy332]; with_reducible exact H) | (have H2_ := (Option.bind_some _ _).symm.trans H; rw [hy332]; with_reducible exact H2_) | (have H2_ := (Option.bind_some _ _).symm.trans H; with_reducible exact H2_) | with_reducible exact H | (rw [hy332]; exact H) | exact H
  have Ny332 := M_ hy332;clear hy332;obtain rfl := Option.some.inj H
  have he : ∀ W : World, (binOp .eql 23 (.slice A0 l0.length c0) (.slice none 0 0)).run Tryz.prog W = .ok (.bool A0.isNone) W := fun W => Lib.run_eql_slice_nil W 23 3 A0 l0.length c0 0 0 Tryz.underlying23
  cases A0 with
  | none =>
   have hz : l0 = [] := by
    rcases Nat.eq_zero_or_pos l0.length with h0 | h0
    ·exact List.eq_nil_of_length_eq_zero h0
    ·obtain ⟨ad, e, _⟩ := HR0.out.2.2 h0
     cases e
   have hq : y332 = [] := by rw [Ny332.out, Ny329.out, hz]; rfl
   have HQ := M_ hq;clear hq hz Ny332 Ny329 LMc2
   go_enter Tryz.func33, Tryz.ntmps33
   go_wp2
   go_ret
   exact ⟨_, rfl, by rw [HQ.out]; exact Kd.R_nil _ _ _ _ _, bU_ HB⟩
  | some a0 =>
   go_enter Tryz.func33, Tryz.ntmps33
   go_wp2_with (first | ((with_reducible refine gate_dst (N := 5) rfl ?_); refine lt_ (Kd.int .i64) 3 (N := 5) (([] : List Int)) [] ri_ ?_; intro v330 w3 ho4 hb hg_ hnew_; clear hg_ hnew_; replace ho4 := rN_ Ny329 ho4; have HO331 := M_ (Kd.R_lower ho4 (bZ_ HB)); replace HB := M_ (bS_ HB hb); clear hb ho4) | ((with_reducible refine gate_builtin (b := .append) (xs := #[.tmp 5, .tmp 6]) rfl ?_); at_builtin; refine Kd.R_append_rows (Kd.int .i64) (w0 := w) w.heap.size rfl (.tmp 5) (.tmp 6) 23 3 (.int .i64 0) 8 rfl Tryz.underlying23 info3 rfl (by decide) (by omega) v330 y329 l0 _ _ _ (fun _ => True) (fun _ => False) rfl rfl ?aO ?aR (fun _ _ h => h) (fun _ h => h.elim) ?aF ?aB ?aS ?aL ?_; (case aR => exact cU_ (Kd.C_below HR0.out HB.out)); (case aB => exact (bU_ HB)); (case aF => exact (fun _ _ => trivial)); (case aO => exact (rU_ HO331.out)); (case aS => exact (bZ_ HB)); (case aL => have := LMc2.out; omega); intro v333 w5 ho hb hg hat; rw [← Ny332.out] at ho; replace HB := M_ (hb); have HO334 := M_ (ho); clear HO331; clear ho hb hg hat))
   go_ret
   exact ⟨_, eR_, rU_ HO334.out, bU_ HB⟩
 ·rw [if_neg c2] at H
  exact absurd H (by simp)

-- NOT PRINTED: function 112 (cmp_isNaN_int)

-- NOT PRINTED: function 93 (cmp_Less_int)

-- NOT PRINTED: function 87 (slices_insertionSortOrdered_int)

-- NOT PRINTED: function 107 (slices_siftDownOrdered_int)

-- NOT PRINTED: function 88 (slices_heapSortOrdered_int)

-- NOT PRINTED: function 96 (bits_Len32)

-- NOT PRINTED: function 78 (bits_Len)

-- NOT PRINTED: function 108 (slices_nextPowerOfTwo)

-- NOT PRINTED: function 109 (slices_xorshift_Next)

-- NOT PRINTED: function 89 (slices_breakPatternsOrdered_int)

-- NOT PRINTED: function 117 (slices_order2Ordered_int)

-- NOT PRINTED: function 111 (slices_medianOrdered_int)

-- NOT PRINTED: function 110 (slices_medianAdjacentOrdered_int)

-- NOT PRINTED: function 90 (slices_choosePivotOrdered_int)

-- NOT PRINTED: function 91 (slices_reverseRangeOrdered_int)

-- NOT PRINTED: function 92 (slices_partialInsertionSortOrdered_int)

-- NOT PRINTED: function 94 (slices_partitionEqualOrdered_int)

-- NOT PRINTED: function 95 (slices_partitionOrdered_int)

-- NOT PRINTED: function 77 (slices_pdqsortOrdered_int)

-- NOT PRINTED: function 71 (slices_Sort_int_int)

-- XNAME sort_Ints sort_Ints
-- XSHELF
theorem own_shrink {w : World} {base g n c : Nat} {e : TypeId} {size : Nat} {xs : List Value} (h : w.ownsRow base e size (.slice (some ⟨g, 0, none⟩) n c) n xs) (m : Nat) (hm : m ≤ n) : w.ownsRow base e size (.slice (some ⟨g, 0, none⟩) m c) m (xs.take (m * size)) := by
 have hmul : m * size ≤ n * size := Nat.mul_le_mul_right _ hm
 rcases h.2 with ⟨hv, _⟩ | ⟨g', cap, cur, hv, hb, hh, hl, hcm, hcs, ht⟩
 ·cases hv
 injection hv with ha _ hc
 injection ha with ha
 injection ha with hg
 subst hg; subst hc;refine ⟨by rw [List.length_take, h.1]; omega, .inr ⟨g, c, cur, rfl, hb, hh, by omega, hcm, hcs, ?_⟩⟩
 rw [← ht, List.take_take, Nat.min_eq_left hmul]
def sort_Ints.f (l0 : List Int) : Option (List Int) := if l0.length < 4611686018427387904 then some (l0.mergeSort fun x y => decide (x ≤ y)) else none
set_option maxHeartbeats 8000000 in
open Go.Sort in
theorem sort_Ints.calls (P0_ : Nat → Prop) (u9000_ : Value) (l0 : List Int) (r1 : List Int) (w0 w : World) (hB : Below w0.heap.size w0 w) (ho0 : Kd.R (Kd.int .i64) 3 w w0.heap.size P0_ u9000_ l0) (h : sort_Ints.f l0 = some r1) :
  Calls Tryz.prog 60 #[u9000_] w fun e w' => e = .returned (.tuple #[]) ∧ Kd.R (Kd.int .i64) 3 w' w0.heap.size (fun k_ => (P0_ k_ ∨ w.heap.size ≤ k_)) u9000_ r1 ∧ Below w0.heap.size w0 w' ∧ Kept w w' (fun k_ => P0_ k_) := by
 unfold sort_Ints.f at h
 by_cases hl : l0.length < 4611686018427387904
 case neg => rw [if_neg hl] at h; cases h
 rw [if_pos hl] at h
 obtain rfl := Option.some.inj h;clear h;have hown := Kd.own_of_R (h1 := fun _ => rfl) ho0
 rcases hown.2 with ⟨rfl, hz⟩ | ⟨g, cap, cur, rfl, hg, hh, hn, hm, hsz, ht⟩
 ·have e0 : l0 = [] := List.eq_nil_of_length_eq_zero hz
  subst e0;refine (Tryz.sort_Ints_none none 0 w).mono ?_;rintro e w' ⟨rfl, rfl⟩;exact ⟨rfl, by rw [List.mergeSort_nil]; exact Kd.R_nil _ _ _ _ _, hB, Kept.refl _ _⟩
 ·have hP := ho0.1 g (by simp [Value.ownBlock])
  rw [Nat.mul_one] at ht
  refine (Tryz.sort_Ints g 0 cap l0 w (holds_of_blockI hh ht) (blk_lt hh) hl).mono ?_;rintro e w' ⟨rfl, n, os, rfl⟩
  have hlen : (l0.mergeSort fun x y => decide (x ≤ y)).length = l0.length := List.length_mergeSort _
  have hg2 := grownBy_sortedI (w := w) (g := g) (n := n) (os := os) (l0.mergeSort fun x y => decide (x ≤ y)).toArray;have ho := ownsRow_sortedI (w := w) (n := n) (os := os) hlen hg hh hn hm hsz
  rw [← hlen] at ho
  refine ⟨rfl, ?_, hB.grown hg2 hB.size (fun k hk => by injection hk with hk; subst hk; exact hg), Kept.of_grown hg2 (Kept.refl w _) (fun k hk => by injection hk with hk; subst hk; exact .inl hP)⟩
  rw [← hlen]
  exact Kd.R_of_own (h1 := fun _ => rfl) ho (fun k hk => by simp [Value.ownBlock] at hk; subst hk; exact .inl hP)

-- XNAME slices_Compact_int_int compact_int
-- XSHELF
def compact_int.f (l0 : List Int) : Option (List Int) := if l0.length ≤ 9223372036854775807 then some (Lib.compact l0) else none
set_option maxHeartbeats 8000000 in
open Go.Sort in
theorem compact_int.calls (P0_ : Nat → Prop) (u9000_ : Value) (l0 : List Int) (r1 : List Int) (w0 w : World) (hB : Below w0.heap.size w0 w) (ho0 : Kd.R (Kd.int .i64) 3 w w0.heap.size P0_ u9000_ l0) (h : compact_int.f l0 = some r1) :
  Calls Tryz.prog 61 #[u9000_] w fun e w' => ∃ v0_ : Value, e = .returned v0_ ∧ Kd.R (Kd.int .i64) 3 w' w0.heap.size (fun k_ => (P0_ k_ ∨ w.heap.size ≤ k_)) v0_ r1 ∧ Below w0.heap.size w0 w' ∧ Kept w w' (fun k_ => P0_ k_) := by
 unfold compact_int.f at h
 by_cases hl : l0.length ≤ 9223372036854775807
 case neg => rw [if_neg hl] at h; cases h
 rw [if_pos hl] at h
 obtain rfl := Option.some.inj h;clear h;have hown := Kd.own_of_R (h1 := fun _ => rfl) ho0
 rcases hown.2 with ⟨rfl, hz⟩ | ⟨g, cap, cur, rfl, hg, hh, hn, hm, hsz, ht⟩
 ·have e0 : l0 = [] := List.eq_nil_of_length_eq_zero hz
  subst e0;refine (Tryz.slices_Compact_int_empty none 0 w).mono ?_;rintro e w' ⟨rfl, rfl⟩;exact ⟨_, rfl, Kd.R_nil _ _ _ _ _, hB, Kept.refl _ _⟩
 ·have hP := ho0.1 g (by simp [Value.ownBlock])
  rw [Nat.mul_one] at ht
  refine (Tryz.slices_Compact_int g 0 cap l0 w (holds_of_blockI hh ht) hl hn).mono ?_;rintro e w' ⟨rfl, n, rfl⟩;have hle := Lib.compact_length_le l0;obtain ⟨ts, hts⟩ : ∃ ts, ts = Lib.compact l0 ++ List.replicate (l0.length - (Lib.compact l0).length) 0 := ⟨_, rfl⟩
  have hlen : ts.length = l0.length := by rw [hts, List.length_append, List.length_replicate]; omega
  rw [← hts, ← grow_empty (putRow (Value.int .i64) (Sort.ahead w n) g 0 ts.toArray)]
  have hg2 := grownBy_sortedI (w := w) (g := g) (n := n) (os := #[]) ts.toArray;have ho := ownsRow_sortedI (w := w) (n := n) (os := #[]) hlen hg hh hn hm hsz;refine ⟨_, rfl, ?_, hB.grown hg2 hB.size (fun k hk => by injection hk with hk; subst hk; exact hg), Kept.of_grown hg2 (Kept.refl w _) (fun k hk => by injection hk with hk; subst hk; exact .inl hP)⟩;have ho2 := own_shrink ho (Lib.compact l0).length hle
  rw [show (ts.map (Value.int .i64)).take ((Lib.compact l0).length * 1) = encs (Value.int .i64) (Lib.compact l0) by rw [Nat.mul_one, ← List.map_take, hts, List.take_left]; rfl] at ho2
  exact Kd.R_of_own (h1 := fun _ => rfl) ho2 (fun k hk => by simp [Value.ownBlock] at hk; subst hk; exact .inl hP)

end Go.Proofs.YtpkklbjdhmpjnaaGreatDoor.PFnInstruments
