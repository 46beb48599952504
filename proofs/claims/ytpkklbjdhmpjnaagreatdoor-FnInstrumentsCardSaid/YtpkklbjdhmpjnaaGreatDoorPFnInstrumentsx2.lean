-- by wip/xprint.py, over the kit's printer
import Derived.Test.YtpkklbjdhmpjnaaGreatDoorPFnInstrumentsx0
import Derived.Test.YtpkklbjdhmpjnaaGreatDoorPFnInstrumentsx1
namespace Go.Proofs.YtpkklbjdhmpjnaaGreatDoor.PFnInstruments
open Go.RowKit Go.Proofs.YtpkklbjdhmpjnaaGreatDoorW.PrintWords Go.Proofs.YtpkklbjdhmpjnaaGreatDoorW.PrintLast Go.Proofs.YtpkklbjdhmpjnaaGreatDoorW.PrintMore
attribute [local go_sem] max2_int min2_int max_two min_two max_three min_three max_four min_four   -- for this text's walks alone
set_option linter.unusedVariables false
set_option linter.unusedSimpArgs false

mutual
def spec_l1Cur_instrument.l0 : Nat → List Int → Int → Int → List Int → Int → Int → List Int → Int → Option (List Int × Int × Int × Int)
 | 0, _, _, _, _, _, _, _, _ => none
 | k + 1, x10, x11, x12, x1000, x1001, x1002, x166000, x166001 => if x12 < x11 then (if 0 ≤ x12 then (if x12 < (x10.length : Int) then ((spec_l1Cur_one.f x1000 x1001 x1002 4).bind fun bt170 => (if bt170.1 = true then (spec_l1Cur_instrument.l0 k x10 x11 (wrap64 (x12 + 1)) x1000 bt170.2.1 bt170.2.2 x166000 x166001) else (if x166000.length < 17592186044416 then (spec_l1Cur_instrument.l0 k x10 x11 (wrap64 (x12 + 1)) x1000 bt170.2.1 bt170.2.2 (x166000 ++ [rd x10 x12]) x166001) else (none)))) else (none)) else (none)) else ((spec_l1Cur_one.f x1000 x1001 x1002 4).bind fun bt176 => (if bt176.1 = true then (spec_l1Cur_instrument.j1 k true x1000 bt176.2.1 bt176.2.2 x166000 x166001) else (spec_l1Cur_instrument.j1 k ((x166000.length : Int) == 0) x1000 bt176.2.1 bt176.2.2 x166000 x166001)))
def spec_l1Cur_instrument.j1 : Nat → Bool → List Int → Int → Int → List Int → Int → Option (List Int × Int × Int × Int)
 | 0, _, _, _, _, _, _ => none
 | k + 1, x33, x1000, x1001, x1002, x166000, x166001 => if x33 = true then ((spec_l1Cur_pick.f x1000 x1001 x1002 73).bind fun bt179 => ((spec_l1Cur_among.f x1000 bt179.2.1 bt179.2.2 (([24, 96, wrap64 (24 + bt179.1)] : List Int))).bind fun bt185 => ((spec_l1Put.f k x166000 bt185.1).bind fun t188 => (spec_l1Cur_instrument.j2 k x1000 bt185.2.1 bt185.2.2 t188 x166001)))) else (spec_l1Cur_instrument.j2 k x1000 x1001 x1002 x166000 x166001)
def spec_l1Cur_instrument.j2 : Nat → List Int → Int → Int → List Int → Int → Option (List Int × Int × Int × Int)
 | 0, _, _, _, _, _ => none
 | k + 1, x1000, x1001, x1002, x166000, x166001 => (spec_l1Cur_one.f x1000 x1001 x1002 12).bind fun bt191 => (if bt191.1 = true then (spec_l1Cur_instrument.j3 k x1000 bt191.2.1 bt191.2.2 (([60] : List Int)) x166001) else (spec_l1Cur_instrument.j3 k x1000 bt191.2.1 bt191.2.2 x166000 x166001))
def spec_l1Cur_instrument.j3 : Nat → List Int → Int → Int → List Int → Int → Option (List Int × Int × Int × Int)
 | 0, _, _, _, _, _ => none
 | k + 1, x1000, x1001, x1002, x166000, x166001 => (spec_l1Cur_one.f x1000 x1001 x1002 20).bind fun bt197 => (if bt197.1 = true then (spec_l1Cur_instrument.l1 k x1000 bt197.2.1 bt197.2.2 ([] : List Int) x166001) else (some (x166000, x166001, bt197.2.1, bt197.2.2)))
def spec_l1Cur_instrument.l1 : Nat → List Int → Int → Int → List Int → Int → Option (List Int × Int × Int × Int)
 | 0, _, _, _, _, _ => none
 | k + 1, x1000, x1001, x1002, x166000, x166001 => if (x166000.length : Int) < 20 then (if x166000.length < 17592186044416 then (spec_l1Cur_instrument.l1 k x1000 x1001 x1002 (x166000 ++ [wrap64 (48 + (x166000.length : Int))]) x166001) else (none)) else (some (x166000, x166001, x1001, x1002))
end
def spec_l1Cur_instrument.f (k : Nat) (s0_0 : List Int) (s0_1 : Int) (s0_2 : Int) : Option (List Int × Int × Int × Int) := (spec_l1Cur_among.f s0_0 s0_1 s0_2 (([1, 1, 2, 3, 4, 8, 20] : List Int))).bind fun bt162 => ((some (([48, 50, 52, 53, 55, 57, 59, 60, 62, 64, 65, 67, 69, 71, 72] : List Int) : List Int)).bind fun y166 => (spec_l1Cur_instrument.l0 k y166 (y166.length : Int) 0 s0_0 bt162.2.1 bt162.2.2 ([] : List Int) bt162.1))
theorem spec_l1Cur_instrument.mono_l : ∀ k, (∀ y0 y1 y2 y3 y4 y5 y6 y7, LeO (spec_l1Cur_instrument.l0 k y0 y1 y2 y3 y4 y5 y6 y7) (spec_l1Cur_instrument.l0 (k + 1) y0 y1 y2 y3 y4 y5 y6 y7)) ∧ (∀ y0 y1 y2 y3 y4 y5, LeO (spec_l1Cur_instrument.j1 k y0 y1 y2 y3 y4 y5) (spec_l1Cur_instrument.j1 (k + 1) y0 y1 y2 y3 y4 y5)) ∧ (∀ y0 y1 y2 y3 y4, LeO (spec_l1Cur_instrument.j2 k y0 y1 y2 y3 y4) (spec_l1Cur_instrument.j2 (k + 1) y0 y1 y2 y3 y4)) ∧ (∀ y0 y1 y2 y3 y4, LeO (spec_l1Cur_instrument.j3 k y0 y1 y2 y3 y4) (spec_l1Cur_instrument.j3 (k + 1) y0 y1 y2 y3 y4)) ∧ (∀ y0 y1 y2 y3 y4, LeO (spec_l1Cur_instrument.l1 k y0 y1 y2 y3 y4) (spec_l1Cur_instrument.l1 (k + 1) y0 y1 y2 y3 y4))
 | 0 => ⟨fun _ _ _ _ _ _ _ _ r h => by simp [spec_l1Cur_instrument.l0] at h, fun _ _ _ _ _ _ r h => by simp [spec_l1Cur_instrument.j1] at h, fun _ _ _ _ _ r h => by simp [spec_l1Cur_instrument.j2] at h, fun _ _ _ _ _ r h => by simp [spec_l1Cur_instrument.j3] at h, fun _ _ _ _ _ r h => by simp [spec_l1Cur_instrument.l1] at h⟩
 | k + 1 => by
  obtain ⟨ih0, ih1, ih2, ih3, ih4⟩ := spec_l1Cur_instrument.mono_l k;refine ⟨?_, ?_, ?_, ?_, ?_⟩
  ·intro y0 y1 y2 y3 y4 y5 y6 y7
   unfold spec_l1Cur_instrument.l0
   have m0_ := @spec_l1Put.mono;exact mo_
  ·intro y0 y1 y2 y3 y4 y5
   unfold spec_l1Cur_instrument.j1
   have m0_ := @spec_l1Put.mono;exact mo_
  ·intro y0 y1 y2 y3 y4
   unfold spec_l1Cur_instrument.j2
   have m0_ := @spec_l1Put.mono;exact mo_
  ·intro y0 y1 y2 y3 y4
   unfold spec_l1Cur_instrument.j3
   have m0_ := @spec_l1Put.mono;exact mo_
  ·intro y0 y1 y2 y3 y4
   unfold spec_l1Cur_instrument.l1
   have m0_ := @spec_l1Put.mono;exact mo_
theorem spec_l1Cur_instrument.mono : ∀ a0 a1 a2 k, LeO (spec_l1Cur_instrument.f k a0 a1 a2) (spec_l1Cur_instrument.f (k + 1) a0 a1 a2) := by
 intro a0 a1 a2 k;obtain ⟨ih0, ih1, ih2, ih3, ih4⟩ := spec_l1Cur_instrument.mono_l k
 unfold spec_l1Cur_instrument.f
 have m0_ := @spec_l1Put.mono;exact mo_
def spec_l1Cur_instrument.T9 : Bool × List (List Nat × List Nat) := (true, [([], []), ([0], [0]), ([], []), ([], []), ([3], [3]), ([4], [4]), ([5], [5]), ([2, 6, 4], [2, 6]), ([1, 7, 7], [1, 7]), ([0, 1, 2, 3, 4, 5, 6, 7, 8], []), ([9, 8, 8, 0, 1, 2, 3, 4, 5, 6, 7, 8], [8, 9])])
def spec_l1Cur_instrument.B9 : List Nat := [0, 1, 0, 0, 8, 24, 56, 124, 255, 511, 1023]
theorem spec_l1Cur_instrument.tab9 : rtab .any (opsOf Tryz.f43 9) = spec_l1Cur_instrument.T9 := by kernel_rfl
theorem spec_l1Cur_instrument.bits9 : waitsOk spec_l1Cur_instrument.T9.2 spec_l1Cur_instrument.B9 = true := by kernel_rfl
set_option maxHeartbeats 8000000 in
set_option maxRecDepth 100000 in
theorem spec_l1Cur_instrument.calls (k : Nat) (g : Nat) (s0_0 : List Int) (s0_1 : Int) (s0_2 : Int) (r1 : List Int) (r2 : Int) (r3 : Int) (r4 : Int) (w0 w : World) (hI : IsS55 w0 w g s0_0 s0_1 s0_2) (hB : Below w0.heap.size w0 w) (h : spec_l1Cur_instrument.f k s0_0 s0_1 s0_2 = some (r1, r2, r3, r4)) :
  Calls Tryz.prog 43 #[.pointer (some ⟨g, 0, none⟩)] w fun e w' => ∃ v0_ : Value, e = .returned (.agg #[v0_, .int .i64 r2]) ∧ Kd.R (Kd.int .i64) 3 w' w.heap.size (fun _ => True) v0_ r1 ∧ IsS55 w0 w' g s0_0 r3 r4 ∧ Below w0.heap.size w0 w' ∧ KeepBut w w' g none := by
 have hu25 := Tryz.underlying25;have HI0 := M_ hI;have GEHI0_ := M_ (IsS55.ge HI0.out);have HK := M_ (KeepBut.refl w g none);have HL := M_ hB.size;clear hI;have HW0 := M_ hB.size;have HB := M_ hB;clear hB
 have H : ((spec_l1Cur_among.f s0_0 s0_1 s0_2 (([1, 1, 2, 3, 4, 8, 20] : List Int))).bind fun bt162 => ((some (([48, 50, 52, 53, 55, 57, 59, 60, 62, 64, 65, 67, 69, 71, 72] : List Int) : List Int)).bind fun y166 => (spec_l1Cur_instrument.l0 k y166 (y166.length : Int) 0 s0_0 bt162.2.1 bt162.2.2 ([] : List Int) bt162.1))) = some (r1, r2, r3, r4) := h
 clear h;obtain ⟨y159, hy159⟩ : ∃ y_ : List Int, y_ = (([1, 1, 2, 3, 4, 8, 20] : List Int)) := ⟨_, rfl⟩
 replace H : ((spec_l1Cur_among.f s0_0 s0_1 s0_2 y159).bind fun bt162 => ((some (([48, 50, 52, 53, 55, 57, 59, 60, 62, 64, 65, 67, 69, 71, 72] : List Int) : List Int)).bind fun y166 => (spec_l1Cur_instrument.l0 k y166 (y166.length : Int) 0 s0_0 bt162.2.1 bt162.2.2 ([] : List Int) bt162.1))) = some (r1, r2, r3, r4) := by first | (rw [hy159]; with_reducible exact H) | (have H2_ := (Option.bind_some _ _).symm.trans H; rw [hy159]; with_reducible exact H2_) | (have H2_ := (Option.bind_some _ _).symm.trans H; with_reducible exact H2_) | with_reducible exact H | (rw [hy159]; exact H) | exact H
 have Ny159 := M_ hy159;clear hy159;replace H := Option.bind_eq_some_iff.mp H;obtain ⟨⟨t162, t163, t164⟩, A20, H⟩ := H;(try dsimp only at H);have A2 := M_ A20;clear A20;obtain ⟨y166, hy166, H⟩ := ob_ H;(try dsimp only at H);have Ny166 := M_ hy166;clear hy166
 have H' := M_ H
 clear H
 go_enter Tryz.func43, Tryz.ntmps43
 go_wp2_with (first | ((with_reducible refine gate_dst (N := 2) rfl ?_); (try (refine gate_guard (by rfl) ?_; dsimp only)); refine bx_ (N := 2) (cs := #[.slice none 0 0, .int .i64 0]) (t := 25) ?_; intro gb158 hg w3 hbox hb; replace HB := M_ (bS_ HB hb); have BK158 := M_ (hbox); have GW158 := M_ (gp_ HK hg); have GE158 := M_ ((Nat.le_trans HW0.out (by rw [hg]; exact (pS_ (w := w) (g := g) HK) : w.heap.size ≤ gb158) : w0.heap.size ≤ gb158)); replace HK := M_ (pB_ HK hb); have NB0_158 := M_ ((by rw [hg]; exact Nat.ne_of_lt (IsS55.lt (show IsS55 w0 _ g s0_0 s0_1 s0_2 from iU_ HI0)) : g ≠ gb158)); have NB158_0 := M_ ((by rw [hg]; exact Nat.ne_of_gt (IsS55.lt (show IsS55 w0 _ g s0_0 s0_1 s0_2 from iU_ HI0)) : gb158 ≠ g)); replace HI0 := M_ (IsS55.below (iU_ HI0) hb); clear hb hbox hg) | ((with_reducible refine gate_dst (N := 7) rfl ?_); (try (refine gate_guard (by rfl) ?_; dsimp only)); refine lt_ (Kd.int .i64) 3 (N := 7) (([1, 1, 2, 3, 4, 8, 20] : List Int)) [.int .i64 1, .int .i64 1, .int .i64 2, .int .i64 3, .int .i64 4, .int .i64 8, .int .i64 20] ri_ ?_; intro v160 w4 ho5 hb hg_ hnew_; clear hg_ hnew_; replace ho5 := rN_ Ny159 ho5; have HO161 := M_ (Kd.R_lower ho5 (pS_ (w := w) (g := g) HK)); replace HI0 := M_ (IsS55.below (iU_ HI0) hb); replace BK158 := M_ (kb_ BK158 hb); replace HK := M_ (pB_ HK hb); replace HB := M_ (bS_ HB hb); clear hb ho5; obtain ⟨Ao6, co6, eo6⟩ := Kd.R_slice HO161.out; subst eo6) | ((with_reducible refine gc_ 59 ?_); refine gM_ (some 8) Tryz.func59 #[.pointer (some ⟨g, 0, none⟩), .slice Ao6 y159.length co6] ?_; (with_reducible refine (spec_l1Cur_among.calls g s0_0 s0_1 s0_2 _ _ y159 t162 t163 t164 w0 _ ?side1 ?side2 ?side3 ?side4 ?side5 A2.out).mono ?_); (case side1 => exact iU_ HI0); (case side2 => exact bU_ HB); (case side3 => exact cU_ (Kd.R_reads' HO161.out).2.2); (case side4 => exact (Kd.R_reads' HO161.out).2.1); (case side5 => exact far_slice (IsS55.own_ne HI0.out HO161.out (by decide))); rintro e w7 ⟨rfl, hi, hb, hk⟩; refine ⟨_, rfl, ?_⟩; replace BK158 := M_ (kk_ hk BK158 NB158_0); replace HO161 := M_ (ik_ HI0 HO161 hk); replace HK := M_ (pT_ HK hk); replace HB := M_ (hb); replace HI0 := M_ (hi); clear hb hk hi) | ((with_reducible refine gate_dst (N := 3) rfl ?_); (try (refine gate_guard (by rfl) ?_; dsimp only)); refine bx_ (N := 3) (cs := #[.slice none 0 0, .int .i64 0]) (t := 25) ?_; intro gb165 hg w8 hbox hb; replace HO161 := M_ (rB_ HO161 hb); replace HB := M_ (bS_ HB hb); have BK165 := M_ (hbox); have GW165 := M_ (gp_ HK hg); have GE165 := M_ ((Nat.le_trans HW0.out (by rw [hg]; exact (pS_ (w := w) (g := g) HK) : w.heap.size ≤ gb165) : w0.heap.size ≤ gb165)); replace HK := M_ (pB_ HK hb); have NB158_165 := M_ (nb_ BK158 hg); have NB165_158 := M_ ((by rw [hg]; exact Nat.ne_of_gt (blk_lt (kU_ BK158)) : gb165 ≠ gb158)); replace BK158 := M_ (kb_ BK158 hb); have NB0_165 := M_ ((by rw [hg]; exact Nat.ne_of_lt (IsS55.lt (show IsS55 w0 _ g s0_0 t163 t164 from iU_ HI0)) : g ≠ gb165)); have NB165_0 := M_ ((by rw [hg]; exact Nat.ne_of_gt (IsS55.lt (show IsS55 w0 _ g s0_0 t163 t164 from iU_ HI0)) : gb165 ≠ g)); replace HI0 := M_ (IsS55.below (iU_ HI0) hb); clear hb hbox hg; have hnb9 := NB165_158.out; have hnc9 := NB158_165.out; have hnb10 := NB165_0.out; have hnc10 := NB0_165.out; obtain ⟨hcz11_0, hcz11_1, hfz11_0, hfz11_1⟩ := bq2_ BK165) | ((with_reducible refine gate_dst (N := 10) rfl ?_); (try (refine gate_guard (by rfl) ?_; dsimp only)); refine lt_ (Kd.int .i64) 3 (N := 10) (([48, 50, 52, 53, 55, 57, 59, 60, 62, 64, 65, 67, 69, 71, 72] : List Int)) [.int .i64 48, .int .i64 50, .int .i64 52, .int .i64 53, .int .i64 55, .int .i64 57, .int .i64 59, .int .i64 60, .int .i64 62, .int .i64 64, .int .i64 65, .int .i64 67, .int .i64 69, .int .i64 71, .int .i64 72] ri_ ?_; intro v167 w12 ho13 hb hg_ hnew_; clear hg_ hnew_; replace ho13 := rN_ Ny166 ho13; have HO168 := M_ (Kd.R_lower (Kd.R_new' ho13 (Kd.R_lt (rU_ ((rm_ (Kd.R_far (p := ⟨gb165, 1, none⟩) (Kd.R_far (p := ⟨gb165, 0, none⟩) (rt_ HO161.out BK165.out (by decide)) (fun _ hk => hk.2) (.slice none 0 0)) (fun _ hk => hk.2) (.int .i64 t162)) (fun _ h_ => h_.1)))))) (pS_ (w := w) (g := g) HK)); replace HO161 := M_ (Kd.R_elder' (rU_ ((rm_ (Kd.R_far (p := ⟨gb165, 1, none⟩) (Kd.R_far (p := ⟨gb165, 0, none⟩) (rt_ HO161.out BK165.out (by decide)) (fun _ hk => hk.2) (.slice none 0 0)) (fun _ hk => hk.2) (.int .i64 t162)) (fun _ h_ => h_.1)))) (Kd.R_base ho13) hb); replace HI0 := M_ (IsS55.below (show IsS55 w0 ((w8.setCell ⟨gb165, 0, none⟩ (.slice none 0 0)).setCell ⟨gb165, 1, none⟩ (.int .i64 t162)) g s0_0 t163 t164 from iU_ HI0) hb); replace BK158 := M_ (blk_below (g := gb158) (o := .cells #[.slice none 0 0, .int .i64 0] 25 (0, 0)) (by (with_reducible repeat (first | refine kn_ ?_ _ | refine kd_ ?_ | refine ka_ ?_ _)); refine blk_far ?_ NB158_165.out _; (with_reducible repeat (first | refine kn_ ?_ _ | refine kd_ ?_ | refine ka_ ?_ _)); refine blk_far ?_ NB158_165.out _; (with_reducible repeat (first | refine kn_ ?_ _ | refine kd_ ?_ | refine ka_ ?_ _)); exact BK158.out) hb); replace BK165 := M_ (blk_below (g := gb165) (o := .cells #[.slice none 0 0, .int .i64 t162] 25 (0, 0)) (by (with_reducible repeat (first | refine kn_ ?_ _ | refine kd_ ?_ | refine ka_ ?_ _)); refine blk_put (cs := #[.slice none 0 0, .int .i64 0]) ?_ 1 _ rfl; (with_reducible repeat (first | refine kn_ ?_ _ | refine kd_ ?_ | refine ka_ ?_ _)); refine blk_put (cs := #[.slice none 0 0, .int .i64 0]) ?_ 0 _ rfl; (with_reducible repeat (first | refine kn_ ?_ _ | refine kd_ ?_ | refine ka_ ?_ _)); exact BK165.out) hb); replace HK := M_ (pB_ HK hb); replace HB := M_ (bS_ HB hb); clear hb ho13; obtain ⟨Ao14, co14, eo14⟩ := Kd.R_slice HO168.out; subst eo14))
 go_loopg [12] k (fun kq v12 w' => ∃ (x12_1 : Int) (x1001_1 : Int) (x1002_1 : Int) (x166000_1 : List Int) (u166000 : Value), v12 = .int .i64 x12_1 ∧ Aside0 (spec_l1Cur_instrument.l0 kq y166 (y166.length : Int) x12_1 s0_0 x1001_1 x1002_1 x166000_1 t162 = some (r1, r2, r3, r4)) ∧ Aside0 (kq ≤ k) ∧ Aside0 (Kd.R (Kd.int .i64) 3 w' w.heap.size (fun k_ => some k_ ≠ (u166000 : Value).ownBlock) (.slice Ao14 y166.length co14) y166) ∧ Aside0 (Kd.R (Kd.int .i64) 3 w' w.heap.size (fun k_ => some k_ ≠ ((.slice Ao14 y166.length co14) : Value).ownBlock) u166000 x166000_1) ∧ Aside0 (w'.heap[gb158]? = some (.cells #[(.slice none 0 0), .int .i64 0] 25 (0, 0))) ∧ Aside0 (w'.heap[gb165]? = some (.cells #[u166000, .int .i64 t162] 25 (0, 0))) ∧ Aside0 (IsS55 w0 w' g s0_0 x1001_1 x1002_1) ∧ Aside0 (KeepBut w w' g none) ∧ Aside0 (Below w0.heap.size w0 w'))
 case atStart => exact ⟨(0), (t163), (t164), (([] : List Int)), (.slice none 0 0), eD_, H', ⟨Nat.le_refl _⟩, ⟨by (with_reducible repeat (first | apply ra_ | apply rn_ | apply rd_)); exact rm_ HO168.out (fun _ hk => (by simp [Value.ownBlock]))⟩, ⟨by first | exact Kd.R_nil _ _ _ _ _ | exact Kd.N_nil _ _ _ _ _ | exact Kd.V_nil _ _ _ _ _ | exact Kd.Q_nil _ _ _ _ _ | exact Kd.S_nil _ _ _ _ _⟩, ⟨kU_ BK158⟩, ⟨kU_ BK165⟩, ⟨iU_ HI0⟩, ⟨pU_ HK⟩, ⟨bU_ HB⟩⟩
 case round =>
  clear H';obtain ⟨x12_1, x1001_1, x1002_1, x166000_1, u166000, rfl, HA, HK1, HO_10, HO_166000, BK158, BK165, HI0, HK, HB⟩ := hrel
  cases gk with
  | zero => exact absurd HA.out (by simp [spec_l1Cur_instrument.l0])
  | succ k1 =>
   have H := HA.out;clear HA;simp only [spec_l1Cur_instrument.l0] at H
   by_cases c15 : x12_1 < (y166.length : Int)
   ·rw [if_pos c15] at H
    have c15b0 : decide (x12_1 < (y166.length : Int)) = true := decide_eq_true c15
    clear c15
    by_cases c16 : 0 ≤ x12_1
    ·rw [if_pos c16] at H
     have c16b0 : decide (0 ≤ x12_1) = true := decide_eq_true c16
     clear c16
     by_cases c17 : x12_1 < (y166.length : Int)
     ·rw [if_pos c17] at H
      have c17b0 : decide (x12_1 < (y166.length : Int)) = true := decide_eq_true c17
      clear c17;replace H := Option.bind_eq_some_iff.mp H;obtain ⟨⟨t170, t171, t172⟩, A180, H⟩ := H;(try dsimp only at H);have A18 := M_ A180;clear A180
      by_cases c19 : t170 = true
      ·subst c19
       rw [if_pos rfl] at H
       have H' := M_ H
       clear H
       have p169 : 0 ≤ (x12_1 : Int) := dT_
       have q169 : x12_1 < (y166.length : Int) := dT_
       obtain ⟨ad169, e169, hx169_0⟩ := Kd.at_int (Kd.R_reads' HO_10.out).2.2 x12_1 p169 q169;cases e169;replace p169 := eq_true p169;replace q169 := eq_true q169
       go_wp2_with (first | ((with_reducible refine gc_ 58 ?_); refine gM_ (some 17) Tryz.func58 #[.pointer (some ⟨g, 0, none⟩), .int .i64 4] ?_; (with_reducible refine (spec_l1Cur_one.calls g s0_0 x1001_1 x1002_1 4 true t171 t172 w0 _ ?side1 ?side2 A18.out).mono ?_); (case side1 => exact iU_ HI0); (case side2 => exact bU_ HB); rintro e w20 ⟨rfl, hi, hb, hk⟩; refine ⟨_, rfl, ?_⟩; replace HO_10 := M_ (ik_ HI0 HO_10 hk); replace HO_166000 := M_ (ik_ HI0 HO_166000 hk); replace BK158 := M_ (kk_ hk BK158 NB158_0); replace BK165 := M_ (kk_ hk BK165 NB165_0); replace HK := M_ (pT_ HK hk); replace HB := M_ (hb); replace HI0 := M_ (hi); clear hb hk hi))
       go_roundg k1
       case measure => have := HK1.out; omega
       case rel => exact ⟨(wrap64 (x12_1 + 1)), (t171), (t172), (x166000_1), (u166000), eD_, H', ⟨by have := HK1.out; omega⟩, ⟨rU_ HO_10.out⟩, ⟨rU_ HO_166000.out⟩, ⟨kU_ BK158⟩, ⟨kU_ BK165⟩, ⟨iU_ HI0⟩, ⟨pU_ HK⟩, ⟨bU_ HB⟩⟩
      ·replace c19 := Bool.eq_false_iff.mpr c19
       subst c19
       rw [if_neg (show ¬ (false = true) by decide)] at H
       by_cases c21 : x166000_1.length < 17592186044416
       ·rw [if_pos c21] at H
        have LMc21 := M_ c21;clear c21;obtain ⟨y173, hy173⟩ : ∃ y_ : List Int, y_ = (x166000_1 ++ [rd y166 x12_1]) := ⟨_, rfl⟩
        replace H : (spec_l1Cur_instrument.l0 k1 y166 (y166.length : Int) (wrap64 (x12_1 + 1)) s0_0 t171 t172 y173 t162) = some (r1, r2, r3, r4) := by first | (rw [hy173]; with_reducible exact H) | (have H2_ := (Option.bind_some _ _).symm.trans H; rw [hy173]; with_reducible exact H2_) | (have H2_ := (Option.bind_some _ _).symm.trans H; with_reducible exact H2_) | with_reducible exact H | (rw [hy173]; exact H) | exact H
        have Ny173 := M_ hy173;clear hy173
        have H' := M_ H
        clear H
        have p169 : 0 ≤ (x12_1 : Int) := dT_
        have q169 : x12_1 < (y166.length : Int) := dT_
        obtain ⟨ad169, e169, hx169_0⟩ := Kd.at_int (Kd.R_reads' HO_10.out).2.2 x12_1 p169 q169;cases e169;replace p169 := eq_true p169;replace q169 := eq_true q169
        go_wp2_with (first | ((with_reducible refine gc_ 58 ?_); refine gM_ (some 17) Tryz.func58 #[.pointer (some ⟨g, 0, none⟩), .int .i64 4] ?_; (with_reducible refine (spec_l1Cur_one.calls g s0_0 x1001_1 x1002_1 4 false t171 t172 w0 _ ?side1 ?side2 A18.out).mono ?_); (case side1 => exact iU_ HI0); (case side2 => exact bU_ HB); rintro e w22 ⟨rfl, hi, hb, hk⟩; refine ⟨_, rfl, ?_⟩; replace HO_10 := M_ (ik_ HI0 HO_10 hk); replace HO_166000 := M_ (ik_ HI0 HO_166000 hk); replace BK158 := M_ (kk_ hk BK158 NB158_0); replace BK165 := M_ (kk_ hk BK165 NB165_0); replace HK := M_ (pT_ HK hk); replace HB := M_ (hb); replace HI0 := M_ (hi); clear hb hk hi; have hnb23 := NB165_158.out; have hnc23 := NB158_165.out; have hnb24 := NB165_0.out; have hnc24 := NB0_165.out; obtain ⟨hcz25_0, hcz25_1, hfz25_0, hfz25_1⟩ := bq2_ BK165) | ((with_reducible refine gate_builtin (b := .append) (xs := #[.tmp 20, .tmp 22]) rfl ?_); (try (refine gate_guard (by rfl) ?_; dsimp only)); at_builtin; refine Kd.R_append (Kd.int .i64) w.heap.size rfl (.tmp 20) (.tmp 22) 23 3 (.int .i64 0) 8 rfl Tryz.underlying23 info3 rfl (by decide) (by omega) u166000 x166000_1 (rd y166 x12_1) [.int .i64 (rd y166 x12_1)] (fun k_ => some k_ ≠ (.slice (some ad169) y166.length co14 : Value).ownBlock) (fun _ => False) rfl rfl ?aP (fun _ hk => hk.elim) ?aF ?aO (Below.refl _ _) ?aS ?aL ?_; (case aP => exact rfl); (case aF => exact (fun k_ hk => Kd.fresh' (rl_ HO_10) k_ hk)); (case aO => exact (rU_ HO_166000.out)); (case aS => exact (pS_ (w := w) (g := g) HK)); (case aL => have := LMc21.out; omega); intro v174 w26 ho hb hg hat; rw [← Ny173.out] at ho; replace HO_10 := M_ (Kd.R_after (ok := (fun _ => True)) (by (with_reducible repeat (first | apply ra_ | apply rn_ | apply rd_)); first | exact rm_ HO_10.out (fun _ hk => ⟨trivial, hk⟩) | exact rm_ HO_10.out (fun _ hk => by refine ⟨?_, ?_⟩ <;> (first | exact hk.2 | exact hk.2.1 | exact hk.2.2 | exact hk.1.2 | exact hk.1.2.1 | exact hk.1.2.2 | exact hk.1.1.2 | exact hk.1.1.2.1 | exact hk.1.1.2.2 | exact hk.1.1.1.2 | exact hk.1.1.1.2.1 | exact hk.1.1.1.2.2 | exact hk.1.1.1.1.2 | exact hk.1.1.1.1.2.1 | exact hk.1.1.1.1.2.2 | exact hk | exact hk.1 | exact hk.1.1 | exact hk.1.1.1 | exact hk.1.1.1.1 | exact hk.1.1.1.1.1))) hg hat); replace BK158 := M_ (kg_ BK158 hg (Kd.R_ne HO_166000.out BK158.out (by decide))); replace BK165 := M_ (kg_ BK165 hg (Kd.R_ne HO_166000.out BK165.out (by decide))); replace HI0 := M_ (IsS55.grown (iU_ HI0) hg (IsS55.own_ne HI0.out HO_166000.out (by decide))); replace HB := M_ (below_weaken (bU_ HB) HL.out hb); replace HK := M_ (KeepBut.trans (pU_ HK) (KeepBut.of_grown hg g) (Kd.R_base2 HO_166000.out)); have HO175 := M_ (ho); clear HO_166000; clear ho hb hg hat; obtain ⟨Ao27, co27, eo27⟩ := Kd.R_slice HO175.out; subst eo27; obtain ⟨hcz28_0, hcz28_1, hfz28_0, hfz28_1⟩ := bq2_ BK165))
        go_roundg k1
        case measure => have := HK1.out; omega
        case rel => exact ⟨(wrap64 (x12_1 + 1)), (t171), (t172), (y173), (.slice Ao27 y173.length co27), eD_, H', ⟨by have := HK1.out; omega⟩, ⟨by (with_reducible repeat (first | apply ra_ | apply rn_ | apply rd_)); exact rm_ (Kd.R_far (p := ⟨gb165, 0, none⟩) (rt_ HO_10.out BK165.out (by decide)) (fun _ hk => hk.2) (.slice Ao27 y173.length co27)) (fun _ hk => hk.1.2)⟩, ⟨by (with_reducible repeat (first | apply ra_ | apply rn_ | apply rd_)); exact rm_ (Kd.R_far (p := ⟨gb165, 0, none⟩) (rt_ HO175.out BK165.out (by decide)) (fun _ hk => hk.2) (.slice Ao27 y173.length co27)) (fun _ hk => hk.1)⟩, ⟨by (with_reducible repeat (first | refine kn_ ?_ _ | refine kd_ ?_ | refine ka_ ?_ _)); refine blk_far ?_ NB158_165.out _; (with_reducible repeat (first | refine kn_ ?_ _ | refine kd_ ?_ | refine ka_ ?_ _)); exact BK158.out⟩, ⟨by (with_reducible repeat (first | refine kn_ ?_ _ | refine kd_ ?_ | refine ka_ ?_ _)); refine blk_put (cs := #[u166000, .int .i64 t162]) ?_ 0 _ rfl; (with_reducible repeat (first | refine kn_ ?_ _ | refine kd_ ?_ | refine ka_ ?_ _)); exact BK165.out⟩, ⟨iU_ HI0⟩, ⟨pU_ HK⟩, ⟨bU_ HB⟩⟩
       ·rw [if_neg c21] at H
        exact absurd H (by simp)
     ·rw [if_neg c17] at H
      exact absurd H (by simp)
    ·rw [if_neg c16] at H
     exact absurd H (by simp)
   ·rw [if_neg c15] at H
    have c15b0 : decide (x12_1 < (y166.length : Int)) = false := decide_eq_false c15
    clear c15;have HC29 := M_ H;clear H
    go_upto_region 8 with (fail)
    go_cut [33] (fun v33 wc => ∃ (kq : Nat) (x33_28 : Bool) (x1001_28 : Int) (x1002_28 : Int), v33 = .bool x33_28 ∧ Aside0 (spec_l1Cur_instrument.j1 kq x33_28 s0_0 x1001_28 x1002_28 x166000_1 t162 = some (r1, r2, r3, r4)) ∧ Aside0 (kq ≤ k1) ∧ Aside0 (Kd.R (Kd.int .i64) 3 wc w.heap.size (fun _ => True) u166000 x166000_1) ∧ Aside0 (wc.heap[gb158]? = some (.cells #[(.slice none 0 0), .int .i64 0] 25 (0, 0))) ∧ Aside0 (wc.heap[gb165]? = some (.cells #[u166000, .int .i64 t162] 25 (0, 0))) ∧ Aside0 (IsS55 w0 wc g s0_0 x1001_28 x1002_28) ∧ Aside0 (KeepBut w wc g none) ∧ Aside0 (Below w0.heap.size w0 wc))
    case first =>
     have H := HC29.out;clear HC29;replace H := Option.bind_eq_some_iff.mp H;obtain ⟨⟨t176, t177, t178⟩, A300, H⟩ := H;(try dsimp only at H);have A30 := M_ A300;clear A300
     by_cases c31 : t176 = true
     ·subst c31
      rw [if_pos rfl] at H
      have H' := M_ H
      clear H
      go_wp2_with (first | ((with_reducible refine gc_ 58 ?_); refine gM_ (some 27) Tryz.func58 #[.pointer (some ⟨g, 0, none⟩), .int .i64 4] ?_; (with_reducible refine (spec_l1Cur_one.calls g s0_0 x1001_1 x1002_1 4 true t177 t178 w0 _ ?side1 ?side2 A30.out).mono ?_); (case side1 => exact iU_ HI0); (case side2 => exact bU_ HB); rintro e w32 ⟨rfl, hi, hb, hk⟩; refine ⟨_, rfl, ?_⟩; replace HO_10 := M_ (ik_ HI0 HO_10 hk); replace HO_166000 := M_ (ik_ HI0 HO_166000 hk); replace BK158 := M_ (kk_ hk BK158 NB158_0); replace BK165 := M_ (kk_ hk BK165 NB165_0); replace HK := M_ (pT_ HK hk); replace HB := M_ (hb); replace HI0 := M_ (hi); clear hb hk hi))
      go_meet
      case rel => exact ⟨_, (true), (t177), (t178), eD_, H', ⟨by have := HK1.out; first | omega | exact Nat.le_refl _⟩, ⟨by (with_reducible repeat (first | apply ra_ | apply rn_ | apply rd_)); exact rm_ HO_166000.out (fun _ hk => trivial)⟩, ⟨kU_ BK158⟩, ⟨kU_ BK165⟩, ⟨iU_ HI0⟩, ⟨pU_ HK⟩, ⟨bU_ HB⟩⟩
     ·replace c31 := Bool.eq_false_iff.mpr c31
      subst c31
      rw [if_neg (show ¬ (false = true) by decide)] at H
      have H' := M_ H
      clear H
      go_wp2_with (first | ((with_reducible refine gc_ 58 ?_); refine gM_ (some 27) Tryz.func58 #[.pointer (some ⟨g, 0, none⟩), .int .i64 4] ?_; (with_reducible refine (spec_l1Cur_one.calls g s0_0 x1001_1 x1002_1 4 false t177 t178 w0 _ ?side1 ?side2 A30.out).mono ?_); (case side1 => exact iU_ HI0); (case side2 => exact bU_ HB); rintro e w33 ⟨rfl, hi, hb, hk⟩; refine ⟨_, rfl, ?_⟩; replace HO_10 := M_ (ik_ HI0 HO_10 hk); replace HO_166000 := M_ (ik_ HI0 HO_166000 hk); replace BK158 := M_ (kk_ hk BK158 NB158_0); replace BK165 := M_ (kk_ hk BK165 NB165_0); replace HK := M_ (pT_ HK hk); replace HB := M_ (hb); replace HI0 := M_ (hi); clear hb hk hi; have hnb34 := NB165_158.out; have hnc34 := NB158_165.out; have hnb35 := NB165_0.out; have hnc35 := NB0_165.out; obtain ⟨hcz36_0, hcz36_1, hfz36_0, hfz36_1⟩ := bq2_ BK165; obtain ⟨Ao37, co37, eo37⟩ := Kd.R_slice HO_166000.out; subst eo37))
      go_meet
      case rel => exact ⟨_, (((x166000_1.length : Int) == 0)), (t177), (t178), eD_, H', ⟨by have := HK1.out; first | omega | exact Nat.le_refl _⟩, ⟨by (with_reducible repeat (first | apply ra_ | apply rn_ | apply rd_)); exact rm_ HO_166000.out (fun _ hk => trivial)⟩, ⟨kU_ BK158⟩, ⟨kU_ BK165⟩, ⟨iU_ HI0⟩, ⟨pU_ HK⟩, ⟨bU_ HB⟩⟩
    case rest =>
     clear HC29;obtain ⟨kq, x33_28, x1001_28, x1002_28, rfl, HA, HJ28, HO_166000, BK158, BK165, HI0, HK, HB⟩ := hcut
     cases kq with
     | zero => exact absurd HA.out (by simp [spec_l1Cur_instrument.j1])
     | succ kj28 =>
      have H := HA.out;clear HA;simp only [spec_l1Cur_instrument.j1] at H;have HC38 := M_ H;clear H
      go_upto_if 33 with (fail)
      go_cut [] (fun wc => ∃ (kq : Nat) (x1001_37 : Int) (x1002_37 : Int) (x166000_37 : List Int) (u166000 : Value), Aside0 (spec_l1Cur_instrument.j2 kq s0_0 x1001_37 x1002_37 x166000_37 t162 = some (r1, r2, r3, r4)) ∧ Aside0 (kq ≤ kj28) ∧ Aside0 (Kd.R (Kd.int .i64) 3 wc w.heap.size (fun _ => True) u166000 x166000_37) ∧ Aside0 (wc.heap[gb158]? = some (.cells #[(.slice none 0 0), .int .i64 0] 25 (0, 0))) ∧ Aside0 (wc.heap[gb165]? = some (.cells #[u166000, .int .i64 t162] 25 (0, 0))) ∧ Aside0 (IsS55 w0 wc g s0_0 x1001_37 x1002_37) ∧ Aside0 (KeepBut w wc g none) ∧ Aside0 (Below w0.heap.size w0 wc))
      case first =>
       have H := HC38.out;clear HC38
       by_cases c39 : x33_28 = true
       ·subst c39
        rw [if_pos rfl] at H
        replace H := Option.bind_eq_some_iff.mp H;obtain ⟨⟨t179, t180, t181⟩, A400, H⟩ := H;(try dsimp only at H);have A40 := M_ A400;clear A400;obtain ⟨y182, hy182⟩ : ∃ y_ : List Int, y_ = (([24, 96, wrap64 (24 + t179)] : List Int)) := ⟨_, rfl⟩
        replace H : ((spec_l1Cur_among.f s0_0 t180 t181 y182).bind fun bt185 => ((spec_l1Put.f kj28 x166000_1 bt185.1).bind fun t188 => (spec_l1Cur_instrument.j2 kj28 s0_0 bt185.2.1 bt185.2.2 t188 t162))) = some (r1, r2, r3, r4) := by first | (rw [hy182]; with_reducible exact H) | (have H2_ := (Option.bind_some _ _).symm.trans H; rw [hy182]; with_reducible exact H2_) | (have H2_ := (Option.bind_some _ _).symm.trans H; with_reducible exact H2_) | with_reducible exact H | (rw [hy182]; exact H) | exact H
        have Ny182 := M_ hy182;clear hy182;replace H := Option.bind_eq_some_iff.mp H;obtain ⟨⟨t185, t186, t187⟩, A410, H⟩ := H;(try dsimp only at H);have A41 := M_ A410;clear A410;replace H := Option.bind_eq_some_iff.mp H;obtain ⟨t188, A420, H⟩ := H;(try dsimp only at H);have A42 := M_ A420;clear A420
        have H' := M_ H
        clear H
        try go_wp2
        replace HO_166000 := M_ (rd_ HO_166000.out); replace BK158 := M_ (kd_ BK158.out); replace BK165 := M_ (kd_ BK165.out); replace HI0 := M_ (IsS55.drew HI0.out); replace HK := M_ (keep_drew HK.out); replace HB := M_ (b1_ HB.out);refine start_ (n := 11) (S := fun w' => w'.cell? ⟨gb165, 0, none⟩ = some (u166000) ∧ w'.cell? ⟨gb165, 1, none⟩ = some (.int .i64 t162)) (ds := [10]) #[F,F,F,F,F,F,F,F,F,F,F] (by kernel_rfl) rfl rfl ⟨bc0_ BK165, bc1_ BK165⟩ (fun hHeld => ?_); refine with_tabW spec_l1Cur_instrument.tab9 spec_l1Cur_instrument.bits9 (fun HT_ HW_ => ?_);generalize wc.drew = w43 at HO_166000 BK158 BK165 HI0 HK HB hHeld ⊢;refine pR_ (i := 0) (N := some 34) #[T,F,F,F,F,F,F,F,F,F,F] ?_;refine pR_ (i := 2) (N := some 36) #[T,F,T,F,F,F,F,F,F,F,F] ?_;refine pR_ (i := 3) (N := some 37) #[T,F,T,T,F,F,F,F,F,F,F] ?_;refine take_ (i := 1) (N := some 35) (v := ?_) (a' := ?_) #[T,T,T,T,F,F,F,F,F,F,F] rfl rfl (take_ofW HT_.out HW_.out (by kernel_rfl)) (fun _ _ _ h => h) (Or.inl ⟨by rfl, ?_⟩) hHeld ?_ ?_;rotate_left
        ·rintro w' ⟨s0, s1⟩
         go_simp;with_reducible rfl
        rotate_left
        ·simp only [Act.put, la_, lb_, lc_, i64_w, i32_w]
         rfl
        refine one_ (i := 4) (N := some 38) #[T,T,T,T,T,F,F,F,F,F,F] rfl rfl (one_of HT_.out (by kernel_rfl)) (by decide) (fun K hK => ?_);refine gS_ Tryz.func40 #[.pointer (some ⟨g, 0, none⟩), .int .i64 73] ?_
        with_reducible refine (spec_l1Cur_pick.calls g s0_0 x1001_28 x1002_28 73 t179 t180 t181 w0 _ ?side1 ?side2 A40.out).mono ?_
        (case side1 => exact iU_ HI0)
        (case side2 => exact bU_ HB)
        rintro e w44 ⟨rfl, hi, hb, hk⟩;refine ⟨_, rfl, ?_⟩;replace HO_166000 := M_ (ik_ HI0 HO_166000 hk); replace BK158 := M_ (kk_ hk BK158 NB158_0); replace BK165 := M_ (kk_ hk BK165 NB165_0); replace HK := M_ (pT_ HK hk); replace HB := M_ (hb); replace HI0 := M_ (hi);clear hb hk hi;refine hK.out _ _ ⟨bc0_ BK165, bc1_ BK165⟩ (fun hHeld => ?_);clear hK K;refine nM_ (some 38) ?_;refine pR_ (i := 5) (N := some 39) #[T,T,T,T,T,T,F,F,F,F,F] ?_;refine one_ (i := 6) (N := some 40) #[T,T,T,T,T,T,T,F,F,F,F] rfl rfl (one_of HT_.out (by kernel_rfl)) (by decide) (fun K hK => ?_);refine ls_ (Kd.int .i64) 3 (N := 40) (([24, 96, wrap64 (24 + t179)] : List Int)) [.int .i64 24, .int .i64 96, .int .i64 (wrap64 (24 + t179))] ri_ ?_;intro v183 w45 ho46 hb hg_ hnew_;clear hg_ hnew_;replace ho46 := rN_ Ny182 ho46;have HO184 := M_ (Kd.R_lower (Kd.R_new' ho46 (rl_ HO_166000)) (pS_ (w := w) (g := g) HK)); replace HO_166000 := M_ (re_ HO_166000 ho46 hb); replace BK158 := M_ (kb_ BK158 hb); replace BK165 := M_ (kb_ BK165 hb); replace HI0 := M_ (IsS55.below (iU_ HI0) hb); replace HK := M_ (pB_ HK hb); replace HB := M_ (bS_ HB hb);clear hb ho46;obtain ⟨Ao47, co47, eo47⟩ := Kd.R_slice HO184.out
        (first | subst eo47 | (injection eo47 with f1_ f2_ f3_; have f4_ := f1_.symm; have f5_ := f3_.symm; clear f1_ f2_ f3_; subst f4_; subst f5_))
        refine hK.out _ _ ⟨bc0_ BK165, bc1_ BK165⟩ (fun hHeld => ?_);clear hK K;refine nM_ (some 40) ?_;refine one_ (i := 7) (N := some 41) #[T,T,T,T,T,T,T,T,F,F,F] rfl rfl (one_of HT_.out (by kernel_rfl)) (by decide) (fun K hK => ?_);refine gS_ Tryz.func59 #[.pointer (some ⟨g, 0, none⟩), .slice Ao47 y182.length co47] ?_
        with_reducible refine (spec_l1Cur_among.calls g s0_0 t180 t181 _ _ y182 t185 t186 t187 w0 _ ?side1 ?side2 ?side3 ?side4 ?side5 A41.out).mono ?_
        (case side1 => exact iU_ HI0)
        (case side2 => exact bU_ HB)
        (case side3 => exact cU_ (Kd.R_reads' HO184.out).2.2)
        (case side4 => exact (Kd.R_reads' HO184.out).2.1)
        (case side5 => exact far_slice (IsS55.own_ne HI0.out HO184.out (by decide)))
        rintro e w48 ⟨rfl, hi, hb, hk⟩;refine ⟨_, rfl, ?_⟩;replace HO_166000 := M_ (ik_ HI0 HO_166000 hk); replace BK158 := M_ (kk_ hk BK158 NB158_0); replace BK165 := M_ (kk_ hk BK165 NB165_0); replace HO184 := M_ (ik_ HI0 HO184 hk); replace HK := M_ (pT_ HK hk); replace HB := M_ (hb); replace HI0 := M_ (hi);clear hb hk hi;obtain ⟨Ao49, co49, eo49⟩ := Kd.R_slice HO_166000.out
        (first | subst eo49 | (injection eo49 with f1_ f2_ f3_; have f4_ := f1_.symm; have f5_ := f3_.symm; clear f1_ f2_ f3_; subst f4_; subst f5_))
        refine hK.out _ _ ⟨bc0_ BK165, bc1_ BK165⟩ (fun hHeld => ?_);clear hK K;refine nM_ (some 41) ?_;refine one_ (i := 8) (N := some 42) #[T,T,T,T,T,T,T,T,T,F,F] rfl rfl (one_of HT_.out (by kernel_rfl)) (by decide) (fun K hK => ?_);refine gS_ Tryz.func36 #[.slice Ao49 x166000_1.length co49, .int .i64 t185] ?_
        with_reducible refine (spec_l1Put.calls kj28 (fun k_ => some k_ = (.slice Ao49 x166000_1.length co49 : Value).ownBlock) (.slice Ao49 x166000_1.length co49) x166000_1 t185 t188 w0 _ ?side1 ?side2 A42.out).mono ?_
        (case side1 => exact bU_ HB)
        (case side2 => exact Kd.R_lower (Kd.R_tight rfl HO_166000.out) HL.out)
        rintro e w50 ⟨v189, rfl, ho0, hb, hkp⟩;refine ⟨_, rfl, ?_⟩;replace BK158 := M_ (blk_kept (kU_ BK158) hkp (fun hs_ => (fun e_ => (Kd.R_ne HO_166000.out BK158.out (by decide)) e_) hs_)); replace BK165 := M_ (blk_kept (kU_ BK165) hkp (fun hs_ => (fun e_ => (Kd.R_ne HO_166000.out BK165.out (by decide)) e_) hs_)); replace HI0 := M_ (IsS55.kept (iU_ HI0) hkp (fun hs_ => (fun e_ => (IsS55.own_ne HI0.out HO_166000.out (by decide)) e_) hs_)); have HO190 := M_ (rm_ (ok' := fun k_ => some k_ ≠ (.slice Ao47 y182.length co47 : Value).ownBlock) (Kd.R_raise (d := (Kd.int .i64)) (b := w0.heap.size) (b' := w.heap.size) (fun _ _ _ _ h_ => h_) ho0 (fun k_ e_ => Or.elim (ho0.1 k_ e_) (fun hs_ => (fun e_ => Kd.R_base HO_166000.out k_ e_.symm) hs_) (fun hn_ => Nat.le_trans (pS_ (w := w) (g := g) HK) hn_))) (fun k_ hk_ => Or.elim hk_ (fun hs_ => fun e_ => (((HO184.out).1 k_ e_.symm).2) hs_) (fun hn_ => (Kd.fresh' (rl_ HO184) k_ hn_)))); replace HO184 := M_ (rm_ (ok' := fun k_ => some k_ ≠ (v189 : Value).ownBlock) (Kd.R_keptB (HO184.out) hkp (fun k_ hk_ hs_ => (hk_.2) hs_)) (fun k_ hk_ => fun e_ => Or.elim (ho0.1 k_ e_.symm) (fun hs_ => hk_.2.1 hs_) (fun hn_ => Nat.not_le.2 hk_.2.2 hn_))); replace HK := M_ (Kept.keepG (pU_ HK) hkp (fun k_ hs_ => (fun e_ => .inr (Kd.R_base HO_166000.out k_ e_.symm)) hs_)); replace HB := M_ (hb); clear HO_166000
        (try clear hb)
        (try clear hkp)
        (try clear ho0);obtain ⟨Ao51, co51, eo51⟩ := Kd.R_slice HO190.out
        (first | subst eo51 | (injection eo51 with f1_ f2_ f3_; have f4_ := f1_.symm; have f5_ := f3_.symm; clear f1_ f2_ f3_; subst f4_; subst f5_))
        refine hK.out _ _ ⟨bc0_ BK165, bc1_ BK165⟩ (fun hHeld => ?_);clear hK K;refine nM_ (some 42) ?_;refine pR_ (i := 9) (N := some 43) #[T,T,T,T,T,T,T,T,T,T,F] ?_;refine last_ (i := 10) (N := none) #[T,T,T,T,T,T,T,T,T,T,T] rfl rfl (one_of HT_.out (by kernel_rfl)) (by decide) (fun K hK => ?_)
        have hs52 : w50.cell? ⟨gb165, 0, none⟩ = some (.slice Ao49 x166000_1.length co49) := bc0_ BK165
        have hfs52 := bf_ BK165 0;have hns52_0 := NB158_165.out;have hms52_0 := NB165_158.out;refine skip_ (w1 := ?_) (by rfl) rfl ?_ ?_;rotate_left
        ·go_simp
         rfl
        refine hK.out _ _ ?_;clear hK K;refine done_ (done_of HT_.out (by kernel_rfl)) ?_
        try go_wp2
        go_meet
        case rel => exact ⟨_, (t186), (t187), (t188), (.slice Ao51 t188.length co51), H', ⟨by have := HK1.out; have := HJ28.out; first | omega | exact Nat.le_refl _⟩, ⟨by (with_reducible repeat (first | apply ra_ | apply rn_ | apply rd_)); exact rm_ (Kd.R_far (p := ⟨gb165, 0, none⟩) (rt_ HO190.out BK165.out (by decide)) (fun _ hk => hk.2) (.slice Ao51 t188.length co51)) (fun _ hk => trivial)⟩, ⟨by (with_reducible repeat (first | refine kn_ ?_ _ | refine kd_ ?_ | refine ka_ ?_ _)); refine blk_far ?_ NB158_165.out _; (with_reducible repeat (first | refine kn_ ?_ _ | refine kd_ ?_ | refine ka_ ?_ _)); exact BK158.out⟩, ⟨by (with_reducible repeat (first | refine kn_ ?_ _ | refine kd_ ?_ | refine ka_ ?_ _)); refine blk_put (cs := #[.slice Ao49 x166000_1.length co49, .int .i64 t162]) ?_ 0 _ rfl; (with_reducible repeat (first | refine kn_ ?_ _ | refine kd_ ?_ | refine ka_ ?_ _)); exact BK165.out⟩, ⟨iU_ HI0⟩, ⟨pU_ HK⟩, ⟨bU_ HB⟩⟩
       ·replace c39 := Bool.eq_false_iff.mpr c39
        subst c39
        rw [if_neg (show ¬ (false = true) by decide)] at H
        have H' := M_ H
        clear H
        go_wp2
        go_meet
        case rel => exact ⟨_, (x1001_28), (x1002_28), (x166000_1), (u166000), H', ⟨by have := HK1.out; have := HJ28.out; first | omega | exact Nat.le_refl _⟩, ⟨rU_ HO_166000.out⟩, ⟨kU_ BK158⟩, ⟨kU_ BK165⟩, ⟨iU_ HI0⟩, ⟨pU_ HK⟩, ⟨bU_ HB⟩⟩
      case rest =>
       clear HC38;obtain ⟨kq, x1001_37, x1002_37, x166000_37, u166000, HA, HJ37, HO_166000, BK158, BK165, HI0, HK, HB⟩ := hcut
       cases kq with
       | zero => exact absurd HA.out (by simp [spec_l1Cur_instrument.j2])
       | succ kj37 =>
        have H := HA.out;clear HA;simp only [spec_l1Cur_instrument.j2] at H;replace H := Option.bind_eq_some_iff.mp H;obtain ⟨⟨t191, t192, t193⟩, A530, H⟩ := H;(try dsimp only at H);have A53 := M_ A530;clear A530;have HC54 := M_ H;clear H
        go_upto_if 45 with (first | ((with_reducible refine gc_ 58 ?_); refine gM_ (some 45) Tryz.func58 #[.pointer (some ⟨g, 0, none⟩), .int .i64 12] ?_; (with_reducible refine (spec_l1Cur_one.calls g s0_0 x1001_37 x1002_37 12 t191 t192 t193 w0 _ ?side1 ?side2 A53.out).mono ?_); (case side1 => exact iU_ HI0); (case side2 => exact bU_ HB); rintro e w55 ⟨rfl, hi, hb, hk⟩; refine ⟨_, rfl, ?_⟩; replace HO_166000 := M_ (ik_ HI0 HO_166000 hk); replace BK158 := M_ (kk_ hk BK158 NB158_0); replace BK165 := M_ (kk_ hk BK165 NB165_0); replace HK := M_ (pT_ HK hk); replace HB := M_ (hb); replace HI0 := M_ (hi); clear hb hk hi))
        (try simp only [Act.put, la_, lb_, lc_])
        go_cut [] (fun wc => ∃ (kq : Nat) (x166000_53 : List Int) (u166000 : Value), Aside0 (spec_l1Cur_instrument.j3 kq s0_0 t192 t193 x166000_53 t162 = some (r1, r2, r3, r4)) ∧ Aside0 (kq ≤ kj37) ∧ Aside0 (Kd.R (Kd.int .i64) 3 wc w.heap.size (fun _ => True) u166000 x166000_53) ∧ Aside0 (wc.heap[gb158]? = some (.cells #[(.slice none 0 0), .int .i64 0] 25 (0, 0))) ∧ Aside0 (wc.heap[gb165]? = some (.cells #[u166000, .int .i64 t162] 25 (0, 0))) ∧ Aside0 (IsS55 w0 wc g s0_0 t192 t193) ∧ Aside0 (KeepBut w wc g none) ∧ Aside0 (Below w0.heap.size w0 wc))
        case first =>
         have H := HC54.out;clear HC54
         by_cases c56 : t191 = true
         ·subst c56
          rw [if_pos rfl] at H
          obtain ⟨y194, hy194⟩ : ∃ y_ : List Int, y_ = (([60] : List Int)) := ⟨_, rfl⟩
          replace H : (spec_l1Cur_instrument.j3 kj37 s0_0 t192 t193 y194 t162) = some (r1, r2, r3, r4) := by first | (rw [hy194]; with_reducible exact H) | (have H2_ := (Option.bind_some _ _).symm.trans H; rw [hy194]; with_reducible exact H2_) | (have H2_ := (Option.bind_some _ _).symm.trans H; with_reducible exact H2_) | with_reducible exact H | (rw [hy194]; exact H) | exact H
          have Ny194 := M_ hy194;clear hy194
          have H' := M_ H
          clear H
          go_wp2_with (first | ((with_reducible refine gate_dst (N := 46) rfl ?_); (try (refine gate_guard (by rfl) ?_; dsimp only)); refine lt_ (Kd.int .i64) 3 (N := 46) (([60] : List Int)) [.int .i64 60] ri_ ?_; intro v195 w57 ho58 hb hg_ hnew_; clear hg_ hnew_; replace ho58 := rN_ Ny194 ho58; have HO196 := M_ (Kd.R_lower (Kd.R_new' ho58 (rl_ HO_166000)) (pS_ (w := w) (g := g) HK)); replace HO_166000 := M_ (re_ HO_166000 ho58 hb); replace BK158 := M_ (kb_ BK158 hb); replace BK165 := M_ (kb_ BK165 hb); replace HI0 := M_ (IsS55.below (iU_ HI0) hb); replace HK := M_ (pB_ HK hb); replace HB := M_ (bS_ HB hb); clear hb ho58; obtain ⟨Ao59, co59, eo59⟩ := Kd.R_slice HO196.out; subst eo59; have hnb60 := NB165_158.out; have hnc60 := NB158_165.out; have hnb61 := NB165_0.out; have hnc61 := NB0_165.out; obtain ⟨hcz62_0, hcz62_1, hfz62_0, hfz62_1⟩ := bq2_ BK165))
          go_meet
          case rel => exact ⟨_, (y194), (.slice Ao59 y194.length co59), H', ⟨by have := HK1.out; have := HJ28.out; have := HJ37.out; first | omega | exact Nat.le_refl _⟩, ⟨by (with_reducible repeat (first | apply ra_ | apply rn_ | apply rd_)); exact rm_ (Kd.R_far (p := ⟨gb165, 0, none⟩) (rt_ HO196.out BK165.out (by decide)) (fun _ hk => hk.2) (.slice Ao59 y194.length co59)) (fun _ hk => trivial)⟩, ⟨by (with_reducible repeat (first | refine kn_ ?_ _ | refine kd_ ?_ | refine ka_ ?_ _)); refine blk_far ?_ NB158_165.out _; (with_reducible repeat (first | refine kn_ ?_ _ | refine kd_ ?_ | refine ka_ ?_ _)); exact BK158.out⟩, ⟨by (with_reducible repeat (first | refine kn_ ?_ _ | refine kd_ ?_ | refine ka_ ?_ _)); refine blk_put (cs := #[u166000, .int .i64 t162]) ?_ 0 _ rfl; (with_reducible repeat (first | refine kn_ ?_ _ | refine kd_ ?_ | refine ka_ ?_ _)); exact BK165.out⟩, ⟨iU_ HI0⟩, ⟨pU_ HK⟩, ⟨bU_ HB⟩⟩
         ·replace c56 := Bool.eq_false_iff.mpr c56
          subst c56
          rw [if_neg (show ¬ (false = true) by decide)] at H
          have H' := M_ H
          clear H
          go_wp2
          go_meet
          case rel => exact ⟨_, (x166000_37), (u166000), H', ⟨by have := HK1.out; have := HJ28.out; have := HJ37.out; first | omega | exact Nat.le_refl _⟩, ⟨rU_ HO_166000.out⟩, ⟨kU_ BK158⟩, ⟨kU_ BK165⟩, ⟨iU_ HI0⟩, ⟨pU_ HK⟩, ⟨bU_ HB⟩⟩
        case rest =>
         clear HC54;obtain ⟨kq, x166000_53, u166000, HA, HJ53, HO_166000, BK158, BK165, HI0, HK, HB⟩ := hcut
         cases kq with
         | zero => exact absurd HA.out (by simp [spec_l1Cur_instrument.j3])
         | succ kj53 =>
          have H := HA.out;clear HA;simp only [spec_l1Cur_instrument.j3] at H;replace H := Option.bind_eq_some_iff.mp H;obtain ⟨⟨t197, t198, t199⟩, A630, H⟩ := H;(try dsimp only at H);have A63 := M_ A630;clear A630
          by_cases c64 : t197 = true
          ·subst c64
           rw [if_pos rfl] at H
           have H' := M_ H
           clear H
           go_wp2_with (first | ((with_reducible refine gc_ 58 ?_); refine gM_ (some 49) Tryz.func58 #[.pointer (some ⟨g, 0, none⟩), .int .i64 20] ?_; (with_reducible refine (spec_l1Cur_one.calls g s0_0 t192 t193 20 true t198 t199 w0 _ ?side1 ?side2 A63.out).mono ?_); (case side1 => exact iU_ HI0); (case side2 => exact bU_ HB); rintro e w65 ⟨rfl, hi, hb, hk⟩; refine ⟨_, rfl, ?_⟩; replace HO_166000 := M_ (ik_ HI0 HO_166000 hk); replace BK158 := M_ (kk_ hk BK158 NB158_0); replace BK165 := M_ (kk_ hk BK165 NB165_0); replace HK := M_ (pT_ HK hk); replace HB := M_ (hb); replace HI0 := M_ (hi); clear hb hk hi; have hnb66 := NB165_158.out; have hnc66 := NB158_165.out; have hnb67 := NB165_0.out; have hnc67 := NB0_165.out; obtain ⟨hcz68_0, hcz68_1, hfz68_0, hfz68_1⟩ := bq2_ BK165))
           go_loopg [] kj53 (fun kq w' => ∃ (x166000_5 : List Int) (u166000 : Value), Aside0 (spec_l1Cur_instrument.l1 kq s0_0 t198 t199 x166000_5 t162 = some (r1, r2, r3, r4)) ∧ Aside0 (kq ≤ kj53) ∧ Aside0 (Kd.R (Kd.int .i64) 3 w' w.heap.size (fun _ => True) u166000 x166000_5) ∧ Aside0 (w'.heap[gb158]? = some (.cells #[(.slice none 0 0), .int .i64 0] 25 (0, 0))) ∧ Aside0 (w'.heap[gb165]? = some (.cells #[u166000, .int .i64 t162] 25 (0, 0))) ∧ Aside0 (IsS55 w0 w' g s0_0 t198 t199) ∧ Aside0 (KeepBut w w' g none) ∧ Aside0 (Below w0.heap.size w0 w'))
           case atStart => exact ⟨(([] : List Int)), (.slice none 0 0), H', ⟨Nat.le_refl _⟩, ⟨by first | exact Kd.R_nil _ _ _ _ _ | exact Kd.N_nil _ _ _ _ _ | exact Kd.V_nil _ _ _ _ _ | exact Kd.Q_nil _ _ _ _ _ | exact Kd.S_nil _ _ _ _ _⟩, ⟨by (with_reducible repeat (first | refine kn_ ?_ _ | refine kd_ ?_ | refine ka_ ?_ _)); refine blk_far ?_ NB158_165.out _; (with_reducible repeat (first | refine kn_ ?_ _ | refine kd_ ?_ | refine ka_ ?_ _)); exact BK158.out⟩, ⟨by (with_reducible repeat (first | refine kn_ ?_ _ | refine kd_ ?_ | refine ka_ ?_ _)); refine blk_put (cs := #[u166000, .int .i64 t162]) ?_ 0 _ rfl; (with_reducible repeat (first | refine kn_ ?_ _ | refine kd_ ?_ | refine ka_ ?_ _)); exact BK165.out⟩, ⟨iU_ HI0⟩, ⟨pU_ HK⟩, ⟨bU_ HB⟩⟩
           case round =>
            clear H';obtain ⟨x166000_5, u166000, HA, HK5, HO_166000, BK158, BK165, HI0, HK, HB⟩ := hrel
            cases gk with
            | zero => exact absurd HA.out (by simp [spec_l1Cur_instrument.l1])
            | succ k5 =>
             have H := HA.out;clear HA;simp only [spec_l1Cur_instrument.l1] at H
             by_cases c69 : (x166000_5.length : Int) < 20
             ·rw [if_pos c69] at H
              have c69b0 : decide ((x166000_5.length : Int) < 20) = true := decide_eq_true c69
              have c69b1 : decide (x166000_5.length < 20) = true := decide_eq_true (by omega)
              clear c69
              by_cases c70 : x166000_5.length < 17592186044416
              ·rw [if_pos c70] at H
               have LMc70 := M_ c70;clear c70;obtain ⟨y200, hy200⟩ : ∃ y_ : List Int, y_ = (x166000_5 ++ [wrap64 (48 + (x166000_5.length : Int))]) := ⟨_, rfl⟩
               replace H : (spec_l1Cur_instrument.l1 k5 s0_0 t198 t199 y200 t162) = some (r1, r2, r3, r4) := by first | (rw [hy200]; with_reducible exact H) | (have H2_ := (Option.bind_some _ _).symm.trans H; rw [hy200]; with_reducible exact H2_) | (have H2_ := (Option.bind_some _ _).symm.trans H; with_reducible exact H2_) | with_reducible exact H | (rw [hy200]; exact H) | exact H
               have Ny200 := M_ hy200;clear hy200
               have H' := M_ H
               clear H;have hnb71 := NB165_158.out;have hnc71 := NB158_165.out;have hnb72 := NB165_0.out;have hnc72 := NB0_165.out;obtain ⟨hcz73_0, hcz73_1, hfz73_0, hfz73_1⟩ := bq2_ BK165;obtain ⟨Ao74, co74, eo74⟩ := Kd.R_slice HO_166000.out;subst eo74
               go_wp2_with (first | ((with_reducible refine gate_builtin (b := .append) (xs := #[.tmp 56, .tmp 61]) rfl ?_); (try (refine gate_guard (by rfl) ?_; dsimp only)); at_builtin; refine Kd.R_append (Kd.int .i64) w.heap.size rfl (.tmp 56) (.tmp 61) 23 3 (.int .i64 0) 8 rfl Tryz.underlying23 info3 rfl (by decide) (by omega) (.slice Ao74 x166000_5.length co74) x166000_5 (wrap64 (48 + (x166000_5.length : Int))) [.int .i64 (wrap64 (48 + (x166000_5.length : Int)))] (fun _ => True) (fun _ => False) rfl rfl ?aP (fun _ hk => hk.elim) ?aF ?aO (Below.refl _ _) ?aS ?aL ?_; (case aP => exact rfl); (case aF => exact (fun _ _ => trivial)); (case aO => exact (rU_ HO_166000.out)); (case aS => exact (pS_ (w := w) (g := g) HK)); (case aL => have := LMc70.out; omega); intro v201 w75 ho hb hg hat; rw [← Ny200.out] at ho; replace BK158 := M_ (kg_ BK158 hg (Kd.R_ne HO_166000.out BK158.out (by decide))); replace BK165 := M_ (kg_ BK165 hg (Kd.R_ne HO_166000.out BK165.out (by decide))); replace HI0 := M_ (IsS55.grown (iU_ HI0) hg (IsS55.own_ne HI0.out HO_166000.out (by decide))); replace HB := M_ (below_weaken (bU_ HB) HL.out hb); replace HK := M_ (KeepBut.trans (pU_ HK) (KeepBut.of_grown hg g) (Kd.R_base2 HO_166000.out)); have HO202 := M_ (ho); clear HO_166000; clear ho hb hg hat; obtain ⟨Ao76, co76, eo76⟩ := Kd.R_slice HO202.out; subst eo76; obtain ⟨hcz77_0, hcz77_1, hfz77_0, hfz77_1⟩ := bq2_ BK165))
               go_roundg k5
               case measure => have := HK1.out; have := HJ28.out; have := HJ37.out; have := HJ53.out; have := HK5.out; omega
               case rel => exact ⟨(y200), (.slice Ao76 y200.length co76), H', ⟨by have := HK1.out; have := HJ28.out; have := HJ37.out; have := HJ53.out; have := HK5.out; omega⟩, ⟨by (with_reducible repeat (first | apply ra_ | apply rn_ | apply rd_)); exact rm_ (Kd.R_far (p := ⟨gb165, 0, none⟩) (rt_ HO202.out BK165.out (by decide)) (fun _ hk => hk.2) (.slice Ao76 y200.length co76)) (fun _ hk => trivial)⟩, ⟨by (with_reducible repeat (first | refine kn_ ?_ _ | refine kd_ ?_ | refine ka_ ?_ _)); refine blk_far ?_ NB158_165.out _; (with_reducible repeat (first | refine kn_ ?_ _ | refine kd_ ?_ | refine ka_ ?_ _)); exact BK158.out⟩, ⟨by (with_reducible repeat (first | refine kn_ ?_ _ | refine kd_ ?_ | refine ka_ ?_ _)); refine blk_put (cs := #[.slice Ao74 x166000_5.length co74, .int .i64 t162]) ?_ 0 _ rfl; (with_reducible repeat (first | refine kn_ ?_ _ | refine kd_ ?_ | refine ka_ ?_ _)); exact BK165.out⟩, ⟨iU_ HI0⟩, ⟨pU_ HK⟩, ⟨bU_ HB⟩⟩
              ·rw [if_neg c70] at H
               exact absurd H (by simp)
             ·rw [if_neg c69] at H
              have c69b0 : decide ((x166000_5.length : Int) < 20) = false := decide_eq_false c69
              have c69b1 : decide (x166000_5.length < 20) = false := decide_eq_false (by omega)
              clear c69;simp only [Option.some.injEq, Prod.mk.injEq] at H;obtain ⟨rfl, rfl, rfl, rfl⟩ := H;have hnb78 := NB165_158.out;have hnc78 := NB158_165.out;have hnb79 := NB165_0.out;have hnc79 := NB0_165.out;obtain ⟨hcz80_0, hcz80_1, hfz80_0, hfz80_1⟩ := bq2_ BK165;obtain ⟨Ao81, co81, eo81⟩ := Kd.R_slice HO_166000.out;subst eo81;have hnb82 := NB158_0.out;have hnc82 := NB0_158.out;obtain ⟨hcz83_0, hcz83_1, hfz83_0, hfz83_1⟩ := bq2_ BK158
              go_wp2
              refine bodyPost_ret (results_cell_row rfl _ _ gb158 25 #[.slice Ao81 x166000_5.length co81, .int .i64 t162] (0, 0) _ rfl (by (with_reducible repeat (first | refine kn_ ?_ _ | refine kd_ ?_ | refine ka_ ?_ _)); refine blk_put (cs := #[.slice Ao81 x166000_5.length co81, .int .i64 0]) ?_ 1 _ rfl; (with_reducible repeat (first | refine kn_ ?_ _ | refine kd_ ?_ | refine ka_ ?_ _)); refine blk_put (cs := #[.slice none 0 0, .int .i64 0]) ?_ 0 _ rfl; (with_reducible repeat (first | refine kn_ ?_ _ | refine kd_ ?_ | refine ka_ ?_ _)); exact BK158.out) Tryz.underlying25 rfl (by kernel_rfl)) rfl ?_;exact ⟨_, eR_, by (with_reducible repeat (first | apply ra_ | apply rn_ | apply rd_)); exact rm_ (Kd.R_far (p := ⟨gb158, 1, none⟩) (Kd.R_far (p := ⟨gb158, 0, none⟩) (rt_ HO_166000.out BK158.out (by decide)) (fun _ hk => hk.2) (.slice Ao81 x166000_5.length co81)) (fun _ hk => hk.2) (.int .i64 t162)) (fun _ hk => trivial), by (try simp only [show IntKind.u64.wrap 0 = 0 from rfl, Int.add_zero]); exact iU_ HI0, bU_ HB, pU_ HK⟩
          ·replace c64 := Bool.eq_false_iff.mpr c64
           subst c64
           rw [if_neg (show ¬ (false = true) by decide)] at H
           simp only [Option.some.injEq, Prod.mk.injEq] at H;obtain ⟨rfl, rfl, rfl, rfl⟩ := H
           go_wp2_with (first | ((with_reducible refine gc_ 58 ?_); refine gM_ (some 49) Tryz.func58 #[.pointer (some ⟨g, 0, none⟩), .int .i64 20] ?_; (with_reducible refine (spec_l1Cur_one.calls g s0_0 t192 t193 20 false t198 t199 w0 _ ?side1 ?side2 A63.out).mono ?_); (case side1 => exact iU_ HI0); (case side2 => exact bU_ HB); rintro e w84 ⟨rfl, hi, hb, hk⟩; refine ⟨_, rfl, ?_⟩; replace HO_166000 := M_ (ik_ HI0 HO_166000 hk); replace BK158 := M_ (kk_ hk BK158 NB158_0); replace BK165 := M_ (kk_ hk BK165 NB165_0); replace HK := M_ (pT_ HK hk); replace HB := M_ (hb); replace HI0 := M_ (hi); clear hb hk hi; have hnb85 := NB165_158.out; have hnc85 := NB158_165.out; have hnb86 := NB165_0.out; have hnc86 := NB0_165.out; obtain ⟨hcz87_0, hcz87_1, hfz87_0, hfz87_1⟩ := bq2_ BK165; obtain ⟨Ao88, co88, eo88⟩ := Kd.R_slice HO_166000.out; subst eo88; have hnb89 := NB158_0.out; have hnc89 := NB0_158.out; obtain ⟨hcz90_0, hcz90_1, hfz90_0, hfz90_1⟩ := bq2_ BK158))
           refine bodyPost_ret (results_cell_row rfl _ _ gb158 25 #[.slice Ao88 x166000_53.length co88, .int .i64 t162] (0, 0) _ rfl (by (with_reducible repeat (first | refine kn_ ?_ _ | refine kd_ ?_ | refine ka_ ?_ _)); refine blk_put (cs := #[.slice Ao88 x166000_53.length co88, .int .i64 0]) ?_ 1 _ rfl; (with_reducible repeat (first | refine kn_ ?_ _ | refine kd_ ?_ | refine ka_ ?_ _)); refine blk_put (cs := #[.slice none 0 0, .int .i64 0]) ?_ 0 _ rfl; (with_reducible repeat (first | refine kn_ ?_ _ | refine kd_ ?_ | refine ka_ ?_ _)); exact BK158.out) Tryz.underlying25 rfl (by kernel_rfl)) rfl ?_;exact ⟨_, eR_, by (with_reducible repeat (first | apply ra_ | apply rn_ | apply rd_)); exact rm_ (Kd.R_far (p := ⟨gb158, 1, none⟩) (Kd.R_far (p := ⟨gb158, 0, none⟩) (rt_ HO_166000.out BK158.out (by decide)) (fun _ hk => hk.2) (.slice Ao88 x166000_53.length co88)) (fun _ hk => hk.2) (.int .i64 t162)) (fun _ hk => trivial), by (try simp only [show IntKind.u64.wrap 0 = 0 from rfl, Int.add_zero]); exact iU_ HI0, bU_ HB, pU_ HK⟩

end Go.Proofs.YtpkklbjdhmpjnaaGreatDoor.PFnInstruments
