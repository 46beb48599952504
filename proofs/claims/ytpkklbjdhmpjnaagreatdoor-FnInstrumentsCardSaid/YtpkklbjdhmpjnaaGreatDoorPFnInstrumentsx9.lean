-- by wip/xprint.py, over the kit's printer
import Derived.Test.YtpkklbjdhmpjnaaGreatDoorPFnInstrumentsx0
import Derived.Test.YtpkklbjdhmpjnaaGreatDoorPFnInstrumentsx1
import Derived.Test.YtpkklbjdhmpjnaaGreatDoorPFnInstrumentsx3
import Derived.Test.YtpkklbjdhmpjnaaGreatDoorPFnInstrumentsx4
import Derived.Test.YtpkklbjdhmpjnaaGreatDoorPFnInstrumentsx5
import Derived.Test.YtpkklbjdhmpjnaaGreatDoorPFnInstrumentsx6
import Derived.Test.YtpkklbjdhmpjnaaGreatDoorPFnInstrumentsx8
namespace Go.Proofs.YtpkklbjdhmpjnaaGreatDoor.PFnInstruments
open Go.RowKit Go.Proofs.YtpkklbjdhmpjnaaGreatDoorW.PrintWords Go.Proofs.YtpkklbjdhmpjnaaGreatDoorW.PrintLast Go.Proofs.YtpkklbjdhmpjnaaGreatDoorW.PrintMore
attribute [local go_sem] max2_int min2_int max_two min_two max_three min_three max_four min_four   -- for this text's walks alone
set_option linter.unusedVariables false
set_option linter.unusedSimpArgs false

def spec_DrawPitchOf.f (k : Nat) (l0 : List Int) : Option (List Int × Int × Int) := (newCur.f l0).bind fun bt389 => ((spec_l1Cur_anyInstrument.f k bt389.1 bt389.2.1 bt389.2.2).bind fun bt393 => ((spec_l1Most.f 1 (bt393.1.length : Int)).bind fun t400 => ((spec_l1Cur_pick.f bt389.1 bt393.2.2.1 bt393.2.2.2 16).bind fun bt401 => ((spec_l1Cur_pick.f bt389.1 bt401.2.1 bt401.2.2 (wrap64 (t400 + (wrap64 (Int.tdiv bt401.1 15))))).bind fun bt404 => ((spec_l1Cur_pick.f bt389.1 bt404.2.1 bt404.2.2 24).bind fun bt407 => (some (bt393.1, bt393.2.1, wrap64 (bt404.1 - (wrap64 (Int.tdiv bt407.1 23))))))))))
theorem spec_DrawPitchOf.mono : ∀ a0 k, LeO (spec_DrawPitchOf.f k a0) (spec_DrawPitchOf.f (k + 1) a0) := by
 intro a0 k
 unfold spec_DrawPitchOf.f
 have m0_ := @spec_l1Cur_anyInstrument.mono;exact mo_
def spec_DrawPitchOf.T3 : Bool × List (List Nat × List Nat) := (true, [([], []), ([], []), ([], []), ([2], [2]), ([3], [3]), ([4], [4]), ([], []), ([6, 5], [6]), ([7], [7]), ([5, 8], [5, 8]), ([1, 9, 7], [1, 9]), ([], []), ([11, 10], [11]), ([12], [12]), ([10, 13], [10, 13]), ([0, 12, 0], [0]), ([14, 15, 0, 1, 2, 3, 4, 5, 6, 7, 8, 9, 10, 11, 12, 13, 14, 15], [14])])
def spec_DrawPitchOf.B3 : List Nat := [0, 0, 0, 4, 12, 28, 0, 124, 252, 508, 1022, 0, 4094, 8190, 16382, 8191, 65535]
theorem spec_DrawPitchOf.tab3 : rtab .any (opsOf Tryz.f12 3) = spec_DrawPitchOf.T3 := by kernel_rfl
theorem spec_DrawPitchOf.bits3 : waitsOk spec_DrawPitchOf.T3.2 spec_DrawPitchOf.B3 = true := by kernel_rfl
set_option maxHeartbeats 8000000 in
set_option maxRecDepth 100000 in
theorem spec_DrawPitchOf.calls (k : Nat) (A0 : Option Addr) (c0 : Nat) (l0 : List Int) (r1 : List Int) (r2 : Int) (r3 : Int) (w : World) (hr0 : Kd.C (Kd.int .u8) w A0 l0.length l0) (hc0 : l0.length ≤ c0) (h : spec_DrawPitchOf.f k l0 = some (r1, r2, r3)) :
  Calls Tryz.prog 12 #[.slice A0 l0.length c0] w fun e w' => ∃ v0_ : Value, e = .returned (.tuple #[.agg #[v0_, .int .i64 r2], .int .i64 r3]) ∧ Kd.R (Kd.int .i64) 3 w' w.heap.size (fun _ => True) v0_ r1 ∧ Below w.heap.size w w' := by
 have hu25 := Tryz.underlying25;have HR0 := M_ hr0;have HC0 := M_ hc0;clear hr0 hc0;have HB := M_ (Below.refl w.heap.size w)
 have H : ((newCur.f l0).bind fun bt389 => ((spec_l1Cur_anyInstrument.f k bt389.1 bt389.2.1 bt389.2.2).bind fun bt393 => ((spec_l1Most.f 1 (bt393.1.length : Int)).bind fun t400 => ((spec_l1Cur_pick.f bt389.1 bt393.2.2.1 bt393.2.2.2 16).bind fun bt401 => ((spec_l1Cur_pick.f bt389.1 bt401.2.1 bt401.2.2 (wrap64 (t400 + (wrap64 (Int.tdiv bt401.1 15))))).bind fun bt404 => ((spec_l1Cur_pick.f bt389.1 bt404.2.1 bt404.2.2 24).bind fun bt407 => (some (bt393.1, bt393.2.1, wrap64 (bt404.1 - (wrap64 (Int.tdiv bt407.1 23))))))))))) = some (r1, r2, r3) := h
 clear h;replace H := Option.bind_eq_some_iff.mp H;obtain ⟨⟨t389, t390, t391⟩, A20, H⟩ := H;(try dsimp only at H);have A2 := M_ A20;clear A20;replace H := Option.bind_eq_some_iff.mp H;obtain ⟨⟨t393, t396, t397, t398⟩, A30, H⟩ := H;(try dsimp only at H);have A3 := M_ A30;clear A30;replace H := Option.bind_eq_some_iff.mp H;obtain ⟨t400, A40, H⟩ := H;(try dsimp only at H);have A4 := M_ A40;clear A40;replace H := Option.bind_eq_some_iff.mp H;obtain ⟨⟨t401, t402, t403⟩, A50, H⟩ := H;(try dsimp only at H);have A5 := M_ A50;clear A50;replace H := Option.bind_eq_some_iff.mp H;obtain ⟨⟨t404, t405, t406⟩, A60, H⟩ := H;(try dsimp only at H);have A6 := M_ A60;clear A60;replace H := Option.bind_eq_some_iff.mp H;obtain ⟨⟨t407, t408, t409⟩, A70, H⟩ := H;(try dsimp only at H);have A7 := M_ A70;clear A70;simp only [Option.some.injEq, Prod.mk.injEq] at H;obtain ⟨rfl, rfl, rfl⟩ := H
 go_enter Tryz.func12, Tryz.ntmps12
 try go_wp2_with (first | ((with_reducible refine gate_dst (N := 2) rfl ?_); refine bx_ (N := 2) (cs := #[.slice none 0 0, .int .i64 0]) (t := 25) ?_; intro gb388 hg w8 hbox hb; have BK388 := M_ (hbox); have GW388 := M_ (gw_ HB hg); have GE388 := M_ (gw_ HB hg); replace HB := M_ (bS_ HB hb); clear hb hbox hg) | ((with_reducible refine gate_dst (N := 8) rfl ?_); refine bx_ (N := 8) (cs := #[.slice A0 l0.length c0, .int .i64 0, .int .u64 0]) (t := 55) ?_; intro g392 hg w9 hbox hb2; have hb := bS_ HB hb2; have hi := newCur_is A2.out (by exact HR0.out) hbox (by rw [hg]; exact (bZ_ HB)); clear hg hbox; replace HB := M_ (hb); have HI392 := M_ (hi); have NB392_388 := M_ (IsS55.ne_blk hi (kb_ BK388 hb2) (by decide)); have NB388_392 := M_ (Ne.symm (IsS55.ne_blk hi (kb_ BK388 hb2) (by decide))); replace BK388 := M_ (kb_ BK388 hb2); (try clear hb); (try clear hb2); (try clear hk); (try clear hi)) | ((with_reducible refine gc_ 39 ?_); refine gM_ (some 10) Tryz.func39 #[.pointer (some ⟨g392, 0, none⟩)] ?_; (with_reducible refine (spec_l1Cur_anyInstrument.calls k g392 t389 t390 t391 t393 t396 t397 t398 w _ ?side1 ?side2 A3.out).mono ?_); (case side1 => exact iU_ HI392); (case side2 => exact bU_ HB); rintro e w10 ⟨v394, rfl, ho0, hi, hb, hk⟩; refine ⟨_, rfl, ?_⟩; replace BK388 := M_ (kk_ hk BK388 NB388_392); have HO395 := M_ (Kd.R_lower ho0 (bZ_ HB)); replace HB := M_ (hb); replace HI392 := M_ (hi); clear hb hk hi ho0) | ((with_reducible refine gate_dst (N := 5) rfl ?_); refine bx_ (N := 5) (cs := #[.slice none 0 0, .int .i64 0]) (t := 25) ?_; intro gb399 hg w11 hbox hb; replace HO395 := M_ (rB_ HO395 hb); have BK399 := M_ (hbox); have GW399 := M_ (gw_ HB hg); have GE399 := M_ (gw_ HB hg); replace HB := M_ (bS_ HB hb); have NB388_399 := M_ (nb_ BK388 hg); have NB399_388 := M_ ((by rw [hg]; exact Nat.ne_of_gt (blk_lt (kU_ BK388)) : gb399 ≠ gb388)); replace BK388 := M_ (kb_ BK388 hb); have NB392_399 := M_ ((by rw [hg]; exact Nat.ne_of_lt (IsS55.lt (show IsS55 w _ g392 t389 t397 t398 from iU_ HI392)) : g392 ≠ gb399)); have NB399_392 := M_ ((by rw [hg]; exact Nat.ne_of_gt (IsS55.lt (show IsS55 w _ g392 t389 t397 t398 from iU_ HI392)) : gb399 ≠ g392)); replace HI392 := M_ (IsS55.below (iU_ HI392) hb); clear hb hbox hg; obtain ⟨Ao12, co12, eo12⟩ := Kd.R_slice HO395.out; subst eo12; have hnb13 := NB399_388.out; have hnc13 := NB388_399.out; have hnb14 := NB399_392.out; have hnc14 := NB392_399.out; obtain ⟨hcz15_0, hcz15_1, hfz15_0, hfz15_1⟩ := bq2_ BK399))
 have n0_ : Aside0 (Kd.R (Kd.int .i64) 3 ((w11.setCell ⟨gb399, 0, none⟩ (.slice Ao12 t393.length co12)).setCell ⟨gb399, 1, none⟩ (.int .i64 t396)) w.heap.size (fun _ => True) (.slice Ao12 t393.length co12) t393) := ⟨by (with_reducible repeat (first | apply ra_ | apply rn_ | apply rd_)); exact rm_ (Kd.R_far (p := ⟨gb399, 1, none⟩) (Kd.R_far (p := ⟨gb399, 0, none⟩) (rt_ HO395.out BK399.out (by decide)) (fun _ hk => hk.2) (.slice Ao12 t393.length co12)) (fun _ hk => hk.2) (.int .i64 t396)) (fun _ hk => trivial)⟩
 have n1_ : Aside0 (((w11.setCell ⟨gb399, 0, none⟩ (.slice Ao12 t393.length co12)).setCell ⟨gb399, 1, none⟩ (.int .i64 t396)).heap[gb388]? = some (.cells #[.slice none 0 0, .int .i64 0] 25 (0, 0))) := ⟨by (with_reducible repeat (first | refine kn_ ?_ _ | refine kd_ ?_ | refine ka_ ?_ _)); refine blk_far ?_ NB388_399.out _; (with_reducible repeat (first | refine kn_ ?_ _ | refine kd_ ?_ | refine ka_ ?_ _)); refine blk_far ?_ NB388_399.out _; (with_reducible repeat (first | refine kn_ ?_ _ | refine kd_ ?_ | refine ka_ ?_ _)); exact BK388.out⟩
 have n2_ : Aside0 (((w11.setCell ⟨gb399, 0, none⟩ (.slice Ao12 t393.length co12)).setCell ⟨gb399, 1, none⟩ (.int .i64 t396)).heap[gb399]? = some (.cells #[.slice Ao12 t393.length co12, .int .i64 t396] 25 (0, 0))) := ⟨by (with_reducible repeat (first | refine kn_ ?_ _ | refine kd_ ?_ | refine ka_ ?_ _)); refine blk_put (cs := #[.slice Ao12 t393.length co12, .int .i64 0]) ?_ 1 _ rfl; (with_reducible repeat (first | refine kn_ ?_ _ | refine kd_ ?_ | refine ka_ ?_ _)); refine blk_put (cs := #[.slice none 0 0, .int .i64 0]) ?_ 0 _ rfl; (with_reducible repeat (first | refine kn_ ?_ _ | refine kd_ ?_ | refine ka_ ?_ _)); exact BK399.out⟩
 have n3_ : Aside0 (IsS55 w ((w11.setCell ⟨gb399, 0, none⟩ (.slice Ao12 t393.length co12)).setCell ⟨gb399, 1, none⟩ (.int .i64 t396)) g392 t389 t397 t398) := ⟨iU_ HI392⟩
 have n4_ : Aside0 (Below w.heap.size w ((w11.setCell ⟨gb399, 0, none⟩ (.slice Ao12 t393.length co12)).setCell ⟨gb399, 1, none⟩ (.int .i64 t396))) := ⟨bU_ HB⟩
 (try clear HO395)
 (try clear BK388)
 (try clear BK399)
 (try clear HI392)
 (try clear HB);generalize ((w11.setCell ⟨gb399, 0, none⟩ (.slice Ao12 t393.length co12)).setCell ⟨gb399, 1, none⟩ (.int .i64 t396)) = w16 at n0_ n1_ n2_ n3_ n4_ ⊢;have HO395 := n0_;have BK388 := n1_;have BK399 := n2_;have HI392 := n3_;have HB := n4_;clear n0_ n1_ n2_ n3_ n4_;replace HO395 := M_ (rd_ HO395.out); replace BK388 := M_ (kd_ BK388.out); replace BK399 := M_ (kd_ BK399.out); replace HI392 := M_ (IsS55.drew HI392.out); replace HB := M_ (b1_ HB.out);refine start_ (n := 17) (S := fun w' => w'.cell? ⟨gb399, 0, none⟩ = some (.slice Ao12 t393.length co12) ∧ w'.cell? ⟨gb399, 1, none⟩ = some (.int .i64 t396)) (ds := []) #[F,F,F,F,F,F,F,F,F,F,F,F,F,F,F,F,F] (by kernel_rfl) rfl rfl ⟨bc0_ BK399, bc1_ BK399⟩ (fun hHeld => ?_); refine with_tabW spec_DrawPitchOf.tab3 spec_DrawPitchOf.bits3 (fun HT_ HW_ => ?_);generalize w16.drew = w17 at HO395 BK388 BK399 HI392 HB hHeld ⊢;refine pR_ (i := 1) (N := some 12) #[F,T,F,F,F,F,F,F,F,F,F,F,F,F,F,F,F] ?_;refine pR_ (i := 2) (N := some 13) #[F,T,T,F,F,F,F,F,F,F,F,F,F,F,F,F,F] ?_;refine pR_ (i := 6) (N := some 17) #[F,T,T,F,F,F,T,F,F,F,F,F,F,F,F,F,F] ?_;refine pR_ (i := 11) (N := some 22) #[F,T,T,F,F,F,T,F,F,F,F,T,F,F,F,F,F] ?_;refine take_ (i := 0) (N := some 11) (v := ?_) (a' := ?_) #[T,T,T,F,F,F,T,F,F,F,F,T,F,F,F,F,F] rfl rfl (take_ofW HT_.out HW_.out (by kernel_rfl)) (fun _ _ _ h => h) (Or.inl ⟨by rfl, ?_⟩) hHeld ?_ ?_;rotate_left
 ·rintro w' ⟨s0, s1⟩
  go_simp;with_reducible rfl
 rotate_left
 ·simp only [Act.put, la_, lb_, lc_, i64_w, i32_w]
  rfl
 refine take_ (i := 3) (N := some 14) (v := ?_) (a' := ?_) #[T,T,T,T,F,F,T,F,F,F,F,T,F,F,F,F,F] rfl rfl (take_ofW HT_.out HW_.out (by kernel_rfl)) (fun _ _ _ h => h) (Or.inl ⟨by rfl, ?_⟩) hHeld ?_ ?_;rotate_left
 ·rintro w' ⟨s0, s1⟩
  go_simp;with_reducible rfl
 rotate_left
 ·simp only [Act.put, la_, lb_, lc_, i64_w, i32_w]
  rfl
 refine pR_ (i := 4) (N := some 15) #[T,T,T,T,T,F,T,F,F,F,F,T,F,F,F,F,F] ?_;refine one_ (i := 5) (N := some 16) #[T,T,T,T,T,T,T,F,F,F,F,T,F,F,F,F,F] rfl rfl (one_of HT_.out (by kernel_rfl)) (by decide) (fun K hK => ?_);refine gS_ Tryz.func41 #[.int .i64 1, .int .i64 (t393.length : Int)] ?_
 with_reducible refine (spec_l1Most.calls 1 (t393.length : Int) t400 _ A4.out).mono ?_
 rintro e w' ⟨rfl, ⟨nd, rfl⟩⟩;refine ⟨_, rfl, ?_⟩;refine hK.out _ _ ⟨bc0_ BK399, bc1_ BK399⟩ (fun hHeld => ?_);clear hK K;refine nM_ (some 16) ?_;refine one_ (i := 7) (N := some 18) #[T,T,T,T,T,T,T,T,F,F,F,T,F,F,F,F,F] rfl rfl (one_of HT_.out (by kernel_rfl)) (by decide) (fun K hK => ?_);refine gS_ Tryz.func40 #[.pointer (some ⟨g392, 0, none⟩), .int .i64 16] ?_
 with_reducible refine (spec_l1Cur_pick.calls g392 t389 t397 t398 16 t401 t402 t403 w _ ?side1 ?side2 A5.out).mono ?_
 (case side1 => exact iU_ HI392)
 (case side2 => exact bU_ HB)
 rintro e w18 ⟨rfl, hi, hb, hk⟩;refine ⟨_, rfl, ?_⟩;replace BK388 := M_ (kk_ hk BK388 NB388_392); replace HO395 := M_ (ik_ HI392 HO395 hk); replace BK399 := M_ (kk_ hk BK399 NB399_392); replace HB := M_ (hb); replace HI392 := M_ (hi);clear hb hk hi;refine hK.out _ _ ⟨bc0_ BK399, bc1_ BK399⟩ (fun hHeld => ?_);clear hK K;refine nM_ (some 18) ?_;refine pR_ (i := 8) (N := some 19) #[T,T,T,T,T,T,T,T,T,F,F,T,F,F,F,F,F] ?_;refine pR_ (i := 9) (N := some 20) #[T,T,T,T,T,T,T,T,T,T,F,T,F,F,F,F,F] ?_;refine one_ (i := 10) (N := some 21) #[T,T,T,T,T,T,T,T,T,T,T,T,F,F,F,F,F] rfl rfl (one_of HT_.out (by kernel_rfl)) (by decide) (fun K hK => ?_);refine gS_ Tryz.func40 #[.pointer (some ⟨g392, 0, none⟩), .int .i64 (wrap64 (t400 + (wrap64 (Int.tdiv t401 15))))] ?_
 with_reducible refine (spec_l1Cur_pick.calls g392 t389 t402 t403 (wrap64 (t400 + (wrap64 (Int.tdiv t401 15)))) t404 t405 t406 w _ ?side1 ?side2 A6.out).mono ?_
 (case side1 => exact iU_ HI392)
 (case side2 => exact bU_ HB)
 rintro e w19 ⟨rfl, hi, hb, hk⟩;refine ⟨_, rfl, ?_⟩;replace BK388 := M_ (kk_ hk BK388 NB388_392); replace HO395 := M_ (ik_ HI392 HO395 hk); replace BK399 := M_ (kk_ hk BK399 NB399_392); replace HB := M_ (hb); replace HI392 := M_ (hi);clear hb hk hi;refine hK.out _ _ ⟨bc0_ BK399, bc1_ BK399⟩ (fun hHeld => ?_);clear hK K;refine nM_ (some 21) ?_;refine one_ (i := 12) (N := some 23) #[T,T,T,T,T,T,T,T,T,T,T,T,T,F,F,F,F] rfl rfl (one_of HT_.out (by kernel_rfl)) (by decide) (fun K hK => ?_);refine gS_ Tryz.func40 #[.pointer (some ⟨g392, 0, none⟩), .int .i64 24] ?_
 with_reducible refine (spec_l1Cur_pick.calls g392 t389 t405 t406 24 t407 t408 t409 w _ ?side1 ?side2 A7.out).mono ?_
 (case side1 => exact iU_ HI392)
 (case side2 => exact bU_ HB)
 rintro e w20 ⟨rfl, hi, hb, hk⟩;refine ⟨_, rfl, ?_⟩;replace BK388 := M_ (kk_ hk BK388 NB388_392); replace HO395 := M_ (ik_ HI392 HO395 hk); replace BK399 := M_ (kk_ hk BK399 NB399_392); replace HB := M_ (hb); replace HI392 := M_ (hi);clear hb hk hi;refine hK.out _ _ ⟨bc0_ BK399, bc1_ BK399⟩ (fun hHeld => ?_);clear hK K;refine nM_ (some 23) ?_;refine pR_ (i := 13) (N := some 24) #[T,T,T,T,T,T,T,T,T,T,T,T,T,T,F,F,F] ?_;refine pR_ (i := 14) (N := some 25) #[T,T,T,T,T,T,T,T,T,T,T,T,T,T,T,F,F] ?_;refine one_ (i := 15) (N := none) #[T,T,T,T,T,T,T,T,T,T,T,T,T,T,T,T,F] rfl rfl (one_of HT_.out (by kernel_rfl)) (by decide) (fun K hK => ?_)
 have hs21 : w20.cell? ⟨gb388, 0, none⟩ = some (.slice none 0 0) := bc0_ BK388
 have hfs21 := bf_ BK388 0;have hns21_1 := NB399_388.out;have hms21_1 := NB388_399.out
 have hs22 : w20.cell? ⟨gb388, 1, none⟩ = some (.int .i64 0) := bc1_ BK388
 have hfs22 := bf_ BK388 1;have hns22_1 := NB399_388.out;have hms22_1 := NB388_399.out;refine skip_ (w1 := ?_) (by rfl) rfl ?_ ?_;rotate_left
 ·go_simp
  rfl
 refine hK.out _ _ ⟨((cell_far (p := ⟨gb388, _, none⟩) NB399_388.out _).trans (((cell_far (p := ⟨gb388, _, none⟩) NB399_388.out _).trans (hHeld.1)))), ((cell_far (p := ⟨gb388, _, none⟩) NB399_388.out _).trans (((cell_far (p := ⟨gb388, _, none⟩) NB399_388.out _).trans (hHeld.2))))⟩ (fun hHeld => ?_);clear hK K;refine pR_ (i := 16) (N := some 3) #[T,T,T,T,T,T,T,T,T,T,T,T,T,T,T,T,T] ?_;refine done_ (done_of HT_.out (by kernel_rfl)) ?_
 try go_wp2
 refine bodyPost_ret (results_ct rfl _ _ gb388 25 #[.slice Ao12 t393.length co12, .int .i64 t396] (0, 0) _ rfl (by (with_reducible repeat (first | refine kn_ ?_ _ | refine kd_ ?_ | refine ka_ ?_ _)); refine blk_put (cs := #[.slice Ao12 t393.length co12, .int .i64 0]) ?_ 1 _ rfl; (with_reducible repeat (first | refine kn_ ?_ _ | refine kd_ ?_ | refine ka_ ?_ _)); refine blk_put (cs := #[.slice none 0 0, .int .i64 0]) ?_ 0 _ rfl; (with_reducible repeat (first | refine kn_ ?_ _ | refine kd_ ?_ | refine ka_ ?_ _)); exact BK388.out) Tryz.underlying25 rfl (by kernel_rfl)) rfl ?_;exact ⟨_, eR_, by (with_reducible repeat (first | apply ra_ | apply rn_ | apply rd_)); exact rm_ (Kd.R_far (p := ⟨gb388, 1, none⟩) (Kd.R_far (p := ⟨gb388, 0, none⟩) (rt_ HO395.out BK388.out (by decide)) (fun _ hk => hk.2) (.slice Ao12 t393.length co12)) (fun _ hk => hk.2) (.int .i64 t396)) (fun _ hk => trivial), bU_ HB⟩

def impl_PitchOf.f (k : Nat) (l0_0 : List Int) (a0_1 : Int) (a1 : Int) : Option (Int × Bool) := (impl_IsInstrument.f k l0_0 a0_1).bind fun t411 => (if t411 = true then (if a1 < 0 then (some (0, false)) else (if a1 ≥ (l0_0.length : Int) then (some (0, false)) else (if 0 ≤ a1 then (if a1 < (l0_0.length : Int) then (some (rd l0_0 a1, true)) else (none)) else (none)))) else (some (0, false)))
theorem impl_PitchOf.mono : ∀ a0 a1 a2 k, LeO (impl_PitchOf.f k a0 a1 a2) (impl_PitchOf.f (k + 1) a0 a1 a2) := by
 intro a0 a1 a2 k
 unfold impl_PitchOf.f
 have m0_ := @impl_IsInstrument.mono;exact mo_
set_option maxHeartbeats 8000000 in
set_option maxRecDepth 100000 in
theorem impl_PitchOf.calls (k : Nat) (A0_0 : Option Addr) (c0_0 : Nat) (l0_0 : List Int) (a0_1 : Int) (a1 : Int) (r1 : Int) (r2 : Bool) (w : World) (hr0_0 : Kd.C (Kd.int .i64) w A0_0 l0_0.length l0_0) (hc0_0 : l0_0.length ≤ c0_0) (h : impl_PitchOf.f k l0_0 a0_1 a1 = some (r1, r2)) :
  Calls Tryz.prog 13 #[.agg #[.slice A0_0 l0_0.length c0_0, .int .i64 a0_1], .int .i64 a1] w fun e w' => e = .returned (.tuple #[.int .i64 r1, .bool r2]) ∧ Below w.heap.size w w' := by
 have hu25 := Tryz.underlying25;have HR0_0 := M_ hr0_0;have HC0_0 := M_ hc0_0;clear hr0_0 hc0_0;have HB := M_ (Below.refl w.heap.size w)
 have H : ((impl_IsInstrument.f k l0_0 a0_1).bind fun t411 => (if t411 = true then (if a1 < 0 then (some (0, false)) else (if a1 ≥ (l0_0.length : Int) then (some (0, false)) else (if 0 ≤ a1 then (if a1 < (l0_0.length : Int) then (some (rd l0_0 a1, true)) else (none)) else (none)))) else (some (0, false)))) = some (r1, r2) := h
 clear h;replace H := Option.bind_eq_some_iff.mp H;obtain ⟨t411, A30, H⟩ := H;(try dsimp only at H);have A3 := M_ A30;clear A30
 by_cases c4 : t411 = true
 ·subst c4
  rw [if_pos rfl] at H
  by_cases c5 : a1 < 0
  ·rw [if_pos c5] at H
   have c5b0 : decide (a1 < 0) = true := decide_eq_true c5
   clear c5;simp only [Option.some.injEq, Prod.mk.injEq] at H;obtain ⟨rfl, rfl⟩ := H
   go_enter Tryz.func13, Tryz.ntmps13
   go_wp2_with (first | ((with_reducible refine gate_dst (N := 2) rfl ?_); (try (refine gate_guard (by rfl) ?_; dsimp only)); refine bx_ (N := 2) (cs := #[.slice A0_0 l0_0.length c0_0, .int .i64 a0_1]) (t := 25) ?_; intro gb410 hg w6 hbox hb; have BK410 := M_ (hbox); have GW410 := M_ (gw_ HB hg); have GE410 := M_ (gw_ HB hg); replace HB := M_ (bS_ HB hb); clear hb hbox hg; obtain ⟨hcz7_0, hcz7_1, hfz7_0, hfz7_1⟩ := bq2_ BK410) | ((with_reducible refine gc_ 23 ?_); refine gM_ (some 7) Tryz.func23 #[.agg #[.slice A0_0 l0_0.length c0_0, .int .i64 a0_1]] ?_; (with_reducible refine (impl_IsInstrument.calls k _ _ l0_0 a0_1 true _ ?side1 ?side2 A3.out).mono ?_); (case side1 => exact cU_ (Kd.C_below HR0_0.out HB.out)); (case side2 => exact HC0_0.out); rintro e w8 ⟨rfl, hb⟩; refine ⟨_, rfl, ?_⟩; replace BK410 := M_ (kb_ BK410 hb); replace HB := M_ (bS_ HB hb); clear hb))
   go_ret2
   exact ⟨eR_, bU_ HB⟩
  ·rw [if_neg c5] at H
   have c5b0 : decide (a1 < 0) = false := decide_eq_false c5
   clear c5
   by_cases c9 : a1 ≥ (l0_0.length : Int)
   ·rw [if_pos c9] at H
    have c9b0 : decide ((l0_0.length : Int) ≤ a1) = true := decide_eq_true c9
    clear c9;simp only [Option.some.injEq, Prod.mk.injEq] at H;obtain ⟨rfl, rfl⟩ := H
    go_enter Tryz.func13, Tryz.ntmps13
    go_wp2_with (first | ((with_reducible refine gate_dst (N := 2) rfl ?_); (try (refine gate_guard (by rfl) ?_; dsimp only)); refine bx_ (N := 2) (cs := #[.slice A0_0 l0_0.length c0_0, .int .i64 a0_1]) (t := 25) ?_; intro gb410 hg w10 hbox hb; have BK410 := M_ (hbox); have GW410 := M_ (gw_ HB hg); have GE410 := M_ (gw_ HB hg); replace HB := M_ (bS_ HB hb); clear hb hbox hg; obtain ⟨hcz11_0, hcz11_1, hfz11_0, hfz11_1⟩ := bq2_ BK410) | ((with_reducible refine gc_ 23 ?_); refine gM_ (some 7) Tryz.func23 #[.agg #[.slice A0_0 l0_0.length c0_0, .int .i64 a0_1]] ?_; (with_reducible refine (impl_IsInstrument.calls k _ _ l0_0 a0_1 true _ ?side1 ?side2 A3.out).mono ?_); (case side1 => exact cU_ (Kd.C_below HR0_0.out HB.out)); (case side2 => exact HC0_0.out); rintro e w12 ⟨rfl, hb⟩; refine ⟨_, rfl, ?_⟩; replace BK410 := M_ (kb_ BK410 hb); replace HB := M_ (bS_ HB hb); clear hb; obtain ⟨hcz13_0, hcz13_1, hfz13_0, hfz13_1⟩ := bq2_ BK410))
    go_ret2
    exact ⟨eR_, bU_ HB⟩
   ·rw [if_neg c9] at H
    have c9b0 : decide ((l0_0.length : Int) ≤ a1) = false := decide_eq_false c9
    clear c9
    by_cases c14 : 0 ≤ a1
    ·rw [if_pos c14] at H
     have c14b0 : decide (0 ≤ a1) = true := decide_eq_true c14
     clear c14
     by_cases c15 : a1 < (l0_0.length : Int)
     ·rw [if_pos c15] at H
      have c15b0 : decide (a1 < (l0_0.length : Int)) = true := decide_eq_true c15
      clear c15;simp only [Option.some.injEq, Prod.mk.injEq] at H;obtain ⟨rfl, rfl⟩ := H
      go_enter Tryz.func13, Tryz.ntmps13
      go_wp2_with (first | ((with_reducible refine gate_dst (N := 2) rfl ?_); (try (refine gate_guard (by rfl) ?_; dsimp only)); refine bx_ (N := 2) (cs := #[.slice A0_0 l0_0.length c0_0, .int .i64 a0_1]) (t := 25) ?_; intro gb410 hg w16 hbox hb; have BK410 := M_ (hbox); have GW410 := M_ (gw_ HB hg); have GE410 := M_ (gw_ HB hg); replace HB := M_ (bS_ HB hb); clear hb hbox hg; obtain ⟨hcz17_0, hcz17_1, hfz17_0, hfz17_1⟩ := bq2_ BK410) | ((with_reducible refine gc_ 23 ?_); refine gM_ (some 7) Tryz.func23 #[.agg #[.slice A0_0 l0_0.length c0_0, .int .i64 a0_1]] ?_; (with_reducible refine (impl_IsInstrument.calls k _ _ l0_0 a0_1 true _ ?side1 ?side2 A3.out).mono ?_); (case side1 => exact cU_ (Kd.C_below HR0_0.out HB.out)); (case side2 => exact HC0_0.out); rintro e w18 ⟨rfl, hb⟩; refine ⟨_, rfl, ?_⟩; replace BK410 := M_ (kb_ BK410 hb); replace HB := M_ (bS_ HB hb); clear hb; obtain ⟨hcz19_0, hcz19_1, hfz19_0, hfz19_1⟩ := bq2_ BK410; have p412 : 0 ≤ (a1 : Int) := dT_; have q412 : a1 < (l0_0.length : Int) := dT_; obtain ⟨ad412, e412, hx412_0⟩ := Kd.at_int HR0_0.out a1 p412 q412; cases e412; replace hx412_0 := (HB.out.cell (World.block_lt_of_cell? w _ hx412_0)).trans hx412_0; replace p412 := eq_true p412; replace q412 := eq_true q412))
      go_ret2
      exact ⟨eR_, bU_ HB⟩
     ·rw [if_neg c15] at H
      exact absurd H (by simp)
    ·rw [if_neg c14] at H
     exact absurd H (by simp)
 ·replace c4 := Bool.eq_false_iff.mpr c4
  subst c4
  rw [if_neg (show ¬ (false = true) by decide)] at H
  simp only [Option.some.injEq, Prod.mk.injEq] at H;obtain ⟨rfl, rfl⟩ := H
  go_enter Tryz.func13, Tryz.ntmps13
  go_wp2_with (first | ((with_reducible refine gate_dst (N := 2) rfl ?_); (try (refine gate_guard (by rfl) ?_; dsimp only)); refine bx_ (N := 2) (cs := #[.slice A0_0 l0_0.length c0_0, .int .i64 a0_1]) (t := 25) ?_; intro gb410 hg w20 hbox hb; have BK410 := M_ (hbox); have GW410 := M_ (gw_ HB hg); have GE410 := M_ (gw_ HB hg); replace HB := M_ (bS_ HB hb); clear hb hbox hg; obtain ⟨hcz21_0, hcz21_1, hfz21_0, hfz21_1⟩ := bq2_ BK410) | ((with_reducible refine gc_ 23 ?_); refine gM_ (some 7) Tryz.func23 #[.agg #[.slice A0_0 l0_0.length c0_0, .int .i64 a0_1]] ?_; (with_reducible refine (impl_IsInstrument.calls k _ _ l0_0 a0_1 false _ ?side1 ?side2 A3.out).mono ?_); (case side1 => exact cU_ (Kd.C_below HR0_0.out HB.out)); (case side2 => exact HC0_0.out); rintro e w22 ⟨rfl, hb⟩; refine ⟨_, rfl, ?_⟩; replace BK410 := M_ (kb_ BK410 hb); replace HB := M_ (bS_ HB hb); clear hb))
  go_ret2
  exact ⟨eR_, bU_ HB⟩

def spec_PitchOf.f (k : Nat) (l0_0 : List Int) (a0_1 : Int) (a1 : Int) : Option (Int × Bool) := (spec_inGood.f k l0_0 a0_1).bind fun t414 => (if t414 = true then ((spec_l1In.f a1 0 (wrap64 ((l0_0.length : Int) - 1))).bind fun t415 => (if t415 = true then (if 0 ≤ a1 then (if a1 < (l0_0.length : Int) then (some (rd l0_0 a1, true)) else (none)) else (none)) else (some (0, false)))) else (some (0, false)))
theorem spec_PitchOf.mono : ∀ a0 a1 a2 k, LeO (spec_PitchOf.f k a0 a1 a2) (spec_PitchOf.f (k + 1) a0 a1 a2) := by
 intro a0 a1 a2 k
 unfold spec_PitchOf.f
 have m0_ := @spec_inGood.mono;exact mo_
set_option maxHeartbeats 8000000 in
set_option maxRecDepth 100000 in
theorem spec_PitchOf.calls (k : Nat) (A0_0 : Option Addr) (c0_0 : Nat) (l0_0 : List Int) (a0_1 : Int) (a1 : Int) (r1 : Int) (r2 : Bool) (w : World) (hr0_0 : Kd.C (Kd.int .i64) w A0_0 l0_0.length l0_0) (hc0_0 : l0_0.length ≤ c0_0) (h : spec_PitchOf.f k l0_0 a0_1 a1 = some (r1, r2)) :
  Calls Tryz.prog 14 #[.agg #[.slice A0_0 l0_0.length c0_0, .int .i64 a0_1], .int .i64 a1] w fun e w' => e = .returned (.tuple #[.int .i64 r1, .bool r2]) ∧ Below w.heap.size w w' := by
 have hu25 := Tryz.underlying25;have HR0_0 := M_ hr0_0;have HC0_0 := M_ hc0_0;clear hr0_0 hc0_0;have HB := M_ (Below.refl w.heap.size w)
 have H : ((spec_inGood.f k l0_0 a0_1).bind fun t414 => (if t414 = true then ((spec_l1In.f a1 0 (wrap64 ((l0_0.length : Int) - 1))).bind fun t415 => (if t415 = true then (if 0 ≤ a1 then (if a1 < (l0_0.length : Int) then (some (rd l0_0 a1, true)) else (none)) else (none)) else (some (0, false)))) else (some (0, false)))) = some (r1, r2) := h
 clear h;replace H := Option.bind_eq_some_iff.mp H;obtain ⟨t414, A30, H⟩ := H;(try dsimp only at H);have A3 := M_ A30;clear A30
 by_cases c4 : t414 = true
 ·subst c4
  rw [if_pos rfl] at H
  replace H := Option.bind_eq_some_iff.mp H;obtain ⟨t415, A50, H⟩ := H;(try dsimp only at H);have A5 := M_ A50;clear A50
  by_cases c6 : t415 = true
  ·subst c6
   rw [if_pos rfl] at H
   by_cases c7 : 0 ≤ a1
   ·rw [if_pos c7] at H
    have c7b0 : decide (0 ≤ a1) = true := decide_eq_true c7
    clear c7
    by_cases c8 : a1 < (l0_0.length : Int)
    ·rw [if_pos c8] at H
     have c8b0 : decide (a1 < (l0_0.length : Int)) = true := decide_eq_true c8
     clear c8;simp only [Option.some.injEq, Prod.mk.injEq] at H;obtain ⟨rfl, rfl⟩ := H
     go_enter Tryz.func14, Tryz.ntmps14
     go_wp2_with (first | ((with_reducible refine gate_dst (N := 2) rfl ?_); (try (refine gate_guard (by rfl) ?_; dsimp only)); refine bx_ (N := 2) (cs := #[.slice A0_0 l0_0.length c0_0, .int .i64 a0_1]) (t := 25) ?_; intro gb413 hg w9 hbox hb; have BK413 := M_ (hbox); have GW413 := M_ (gw_ HB hg); have GE413 := M_ (gw_ HB hg); replace HB := M_ (bS_ HB hb); clear hb hbox hg; obtain ⟨hcz10_0, hcz10_1, hfz10_0, hfz10_1⟩ := bq2_ BK413) | ((with_reducible refine gc_ 27 ?_); refine gM_ (some 7) Tryz.func27 #[.agg #[.slice A0_0 l0_0.length c0_0, .int .i64 a0_1]] ?_; (with_reducible refine (spec_inGood.calls k _ _ l0_0 a0_1 true _ ?side1 ?side2 A3.out).mono ?_); (case side1 => exact cU_ (Kd.C_below HR0_0.out HB.out)); (case side2 => exact HC0_0.out); rintro e w11 ⟨rfl, hb⟩; refine ⟨_, rfl, ?_⟩; replace BK413 := M_ (kb_ BK413 hb); replace HB := M_ (bS_ HB hb); clear hb; obtain ⟨hcz12_0, hcz12_1, hfz12_0, hfz12_1⟩ := bq2_ BK413) | (go_at_call 42; (with_reducible refine (spec_l1In.calls a1 0 (wrap64 ((l0_0.length : Int) - 1)) true _ A5.out).mono ?_); rintro e w' ⟨rfl, ⟨nd, rfl⟩⟩; have p416 : 0 ≤ (a1 : Int) := dT_; have q416 : a1 < (l0_0.length : Int) := dT_; obtain ⟨ad416, e416, hx416_0⟩ := Kd.at_int HR0_0.out a1 p416 q416; cases e416; replace hx416_0 := (HB.out.cell (World.block_lt_of_cell? w _ hx416_0)).trans hx416_0; replace p416 := eq_true p416; replace q416 := eq_true q416))
     go_ret2
     exact ⟨eR_, bU_ HB⟩
    ·rw [if_neg c8] at H
     exact absurd H (by simp)
   ·rw [if_neg c7] at H
    exact absurd H (by simp)
  ·replace c6 := Bool.eq_false_iff.mpr c6
   subst c6
   rw [if_neg (show ¬ (false = true) by decide)] at H
   simp only [Option.some.injEq, Prod.mk.injEq] at H;obtain ⟨rfl, rfl⟩ := H
   go_enter Tryz.func14, Tryz.ntmps14
   go_wp2_with (first | ((with_reducible refine gate_dst (N := 2) rfl ?_); (try (refine gate_guard (by rfl) ?_; dsimp only)); refine bx_ (N := 2) (cs := #[.slice A0_0 l0_0.length c0_0, .int .i64 a0_1]) (t := 25) ?_; intro gb413 hg w13 hbox hb; have BK413 := M_ (hbox); have GW413 := M_ (gw_ HB hg); have GE413 := M_ (gw_ HB hg); replace HB := M_ (bS_ HB hb); clear hb hbox hg; obtain ⟨hcz14_0, hcz14_1, hfz14_0, hfz14_1⟩ := bq2_ BK413) | ((with_reducible refine gc_ 27 ?_); refine gM_ (some 7) Tryz.func27 #[.agg #[.slice A0_0 l0_0.length c0_0, .int .i64 a0_1]] ?_; (with_reducible refine (spec_inGood.calls k _ _ l0_0 a0_1 true _ ?side1 ?side2 A3.out).mono ?_); (case side1 => exact cU_ (Kd.C_below HR0_0.out HB.out)); (case side2 => exact HC0_0.out); rintro e w15 ⟨rfl, hb⟩; refine ⟨_, rfl, ?_⟩; replace BK413 := M_ (kb_ BK413 hb); replace HB := M_ (bS_ HB hb); clear hb; obtain ⟨hcz16_0, hcz16_1, hfz16_0, hfz16_1⟩ := bq2_ BK413) | (go_at_call 42; (with_reducible refine (spec_l1In.calls a1 0 (wrap64 ((l0_0.length : Int) - 1)) false _ A5.out).mono ?_); rintro e w' ⟨rfl, ⟨nd, rfl⟩⟩))
   go_ret2
   exact ⟨eR_, bU_ HB⟩
 ·replace c4 := Bool.eq_false_iff.mpr c4
  subst c4
  rw [if_neg (show ¬ (false = true) by decide)] at H
  simp only [Option.some.injEq, Prod.mk.injEq] at H;obtain ⟨rfl, rfl⟩ := H
  go_enter Tryz.func14, Tryz.ntmps14
  go_wp2_with (first | ((with_reducible refine gate_dst (N := 2) rfl ?_); (try (refine gate_guard (by rfl) ?_; dsimp only)); refine bx_ (N := 2) (cs := #[.slice A0_0 l0_0.length c0_0, .int .i64 a0_1]) (t := 25) ?_; intro gb413 hg w17 hbox hb; have BK413 := M_ (hbox); have GW413 := M_ (gw_ HB hg); have GE413 := M_ (gw_ HB hg); replace HB := M_ (bS_ HB hb); clear hb hbox hg; obtain ⟨hcz18_0, hcz18_1, hfz18_0, hfz18_1⟩ := bq2_ BK413) | ((with_reducible refine gc_ 27 ?_); refine gM_ (some 7) Tryz.func27 #[.agg #[.slice A0_0 l0_0.length c0_0, .int .i64 a0_1]] ?_; (with_reducible refine (spec_inGood.calls k _ _ l0_0 a0_1 false _ ?side1 ?side2 A3.out).mono ?_); (case side1 => exact cU_ (Kd.C_below HR0_0.out HB.out)); (case side2 => exact HC0_0.out); rintro e w19 ⟨rfl, hb⟩; refine ⟨_, rfl, ?_⟩; replace BK413 := M_ (kb_ BK413 hb); replace HB := M_ (bS_ HB hb); clear hb))
  go_ret2
  exact ⟨eR_, bU_ HB⟩

def spec_DrawCommonPitches.f (k : Nat) (l0 : List Int) : Option (List Int × Int × List Int × Int) := (newCur.f l0).bind fun bt419 => ((spec_l1Cur_anyInstrument.f k bt419.1 bt419.2.1 bt419.2.2).bind fun bt423 => ((spec_l1Cur_anyInstrument.f k bt419.1 bt423.2.2.1 bt423.2.2.2).bind fun bt429 => (some (bt423.1, bt423.2.1, bt429.1, bt429.2.1))))
theorem spec_DrawCommonPitches.mono : ∀ a0 k, LeO (spec_DrawCommonPitches.f k a0) (spec_DrawCommonPitches.f (k + 1) a0) := by
 intro a0 k
 unfold spec_DrawCommonPitches.f
 have m0_ := @spec_l1Cur_anyInstrument.mono;exact mo_
set_option maxHeartbeats 8000000 in
set_option maxRecDepth 100000 in
theorem spec_DrawCommonPitches.calls (k : Nat) (A0 : Option Addr) (c0 : Nat) (l0 : List Int) (r1 : List Int) (r2 : Int) (r3 : List Int) (r4 : Int) (w : World) (hr0 : Kd.C (Kd.int .u8) w A0 l0.length l0) (hc0 : l0.length ≤ c0) (h : spec_DrawCommonPitches.f k l0 = some (r1, r2, r3, r4)) :
  Calls Tryz.prog 15 #[.slice A0 l0.length c0] w fun e w' => ∃ v0_ v2_ : Value, e = .returned (.tuple #[.agg #[v0_, .int .i64 r2], .agg #[v2_, .int .i64 r4]]) ∧ Kd.R (Kd.int .i64) 3 w' w.heap.size (fun k_ => some k_ ≠ (v2_ : Value).ownBlock) v0_ r1 ∧ Kd.R (Kd.int .i64) 3 w' w.heap.size (fun k_ => some k_ ≠ (v0_ : Value).ownBlock) v2_ r3 ∧ Below w.heap.size w w' := by
 have hu25 := Tryz.underlying25;have HR0 := M_ hr0;have HC0 := M_ hc0;clear hr0 hc0;have HB := M_ (Below.refl w.heap.size w)
 have H : ((newCur.f l0).bind fun bt419 => ((spec_l1Cur_anyInstrument.f k bt419.1 bt419.2.1 bt419.2.2).bind fun bt423 => ((spec_l1Cur_anyInstrument.f k bt419.1 bt423.2.2.1 bt423.2.2.2).bind fun bt429 => (some (bt423.1, bt423.2.1, bt429.1, bt429.2.1))))) = some (r1, r2, r3, r4) := h
 clear h;replace H := Option.bind_eq_some_iff.mp H;obtain ⟨⟨t419, t420, t421⟩, A20, H⟩ := H;(try dsimp only at H);have A2 := M_ A20;clear A20;replace H := Option.bind_eq_some_iff.mp H;obtain ⟨⟨t423, t426, t427, t428⟩, A30, H⟩ := H;(try dsimp only at H);have A3 := M_ A30;clear A30;replace H := Option.bind_eq_some_iff.mp H;obtain ⟨⟨t429, t432, t433, t434⟩, A40, H⟩ := H;(try dsimp only at H);have A4 := M_ A40;clear A40;simp only [Option.some.injEq, Prod.mk.injEq] at H;obtain ⟨rfl, rfl, rfl, rfl⟩ := H
 go_enter Tryz.func15, Tryz.ntmps15
 go_wp2_with (first | ((with_reducible refine gate_dst (N := 2) rfl ?_); refine bx_ (N := 2) (cs := #[.slice none 0 0, .int .i64 0]) (t := 25) ?_; intro gb417 hg w5 hbox hb; have BK417 := M_ (hbox); have GW417 := M_ (gw_ HB hg); have GE417 := M_ (gw_ HB hg); replace HB := M_ (bS_ HB hb); clear hb hbox hg) | ((with_reducible refine gate_dst (N := 3) rfl ?_); refine bx_ (N := 3) (cs := #[.slice none 0 0, .int .i64 0]) (t := 25) ?_; intro gb418 hg w6 hbox hb; have BK418 := M_ (hbox); have GW418 := M_ (gw_ HB hg); have GE418 := M_ (gw_ HB hg); replace HB := M_ (bS_ HB hb); have NB417_418 := M_ (nb_ BK417 hg); have NB418_417 := M_ ((by rw [hg]; exact Nat.ne_of_gt (blk_lt (kU_ BK417)) : gb418 ≠ gb417)); replace BK417 := M_ (kb_ BK417 hb); clear hb hbox hg) | ((with_reducible refine gate_dst (N := 7) rfl ?_); refine bx_ (N := 7) (cs := #[.slice A0 l0.length c0, .int .i64 0, .int .u64 0]) (t := 55) ?_; intro g422 hg w7 hbox hb2; have hb := bS_ HB hb2; have hi := newCur_is A2.out (by exact HR0.out) hbox (by rw [hg]; exact (bZ_ HB)); clear hg hbox; replace HB := M_ (hb); have HI422 := M_ (hi); have NB422_417 := M_ (IsS55.ne_blk hi (kb_ BK417 hb2) (by decide)); have NB417_422 := M_ (Ne.symm (IsS55.ne_blk hi (kb_ BK417 hb2) (by decide))); replace BK417 := M_ (kb_ BK417 hb2); have NB422_418 := M_ (IsS55.ne_blk hi (kb_ BK418 hb2) (by decide)); have NB418_422 := M_ (Ne.symm (IsS55.ne_blk hi (kb_ BK418 hb2) (by decide))); replace BK418 := M_ (kb_ BK418 hb2); skip) | ((with_reducible refine gc_ 39 ?_); refine gM_ (some 9) Tryz.func39 #[.pointer (some ⟨g422, 0, none⟩)] ?_; (with_reducible refine (spec_l1Cur_anyInstrument.calls k g422 t419 t420 t421 t423 t426 t427 t428 w _ ?side1 ?side2 A3.out).mono ?_); (case side1 => exact iU_ HI422); (case side2 => exact bU_ HB); rintro e w8 ⟨v424, rfl, ho0, hi, hb, hk⟩; refine ⟨_, rfl, ?_⟩; replace BK417 := M_ (kk_ hk BK417 NB417_422); replace BK418 := M_ (kk_ hk BK418 NB418_422); have HO425 := M_ (Kd.R_lower ho0 (bZ_ HB)); replace HB := M_ (hb); replace HI422 := M_ (hi); clear hb hk hi ho0) | ((with_reducible refine gc_ 39 ?_); refine gM_ (some 11) Tryz.func39 #[.pointer (some ⟨g422, 0, none⟩)] ?_; (with_reducible refine (spec_l1Cur_anyInstrument.calls k g422 t419 t427 t428 t429 t432 t433 t434 w _ ?side1 ?side2 A4.out).mono ?_); (case side1 => exact iU_ HI422); (case side2 => exact bU_ HB); rintro e w9 ⟨v430, rfl, ho0, hi, hb, hk⟩; refine ⟨_, rfl, ?_⟩; replace BK417 := M_ (kk_ hk BK417 NB417_422); replace BK418 := M_ (kk_ hk BK418 NB418_422); have HO431 := M_ (Kd.R_lower (Kd.R_new' ho0 (rl_ HO425)) (bZ_ HB)); replace HO425 := M_ (rm_ (Kd.R_told (Kd.R_oldK (IsS55.apart (show IsS55 w _ g422 t419 t427 t428 from iU_ HI422) (rU_ HO425.out) (by decide)) hk) (Kd.R_base ho0)) (fun _ h_ => h_.1)); replace HB := M_ (hb); replace HI422 := M_ (hi); clear hb hk hi ho0; obtain ⟨Ao10, co10, eo10⟩ := Kd.R_slice HO425.out; subst eo10; have hnb11 := NB417_418.out; have hnc11 := NB418_417.out; have hnb12 := NB417_422.out; have hnc12 := NB422_417.out; obtain ⟨hcz13_0, hcz13_1, hfz13_0, hfz13_1⟩ := bq2_ BK417; obtain ⟨Ao14, co14, eo14⟩ := Kd.R_slice HO431.out; subst eo14; have hnb15 := NB418_422.out; have hnc15 := NB422_418.out; obtain ⟨hcz16_0, hcz16_1, hfz16_0, hfz16_1⟩ := bq2_ BK418))
 refine bodyPost_ret (results_cc rfl _ _ gb417 gb418 25 25 #[.slice Ao10 t423.length co10, .int .i64 t426] #[.slice Ao14 t429.length co14, .int .i64 t432] (0, 0) (0, 0) _ _ rfl (by (with_reducible repeat (first | refine kn_ ?_ _ | refine kd_ ?_ | refine ka_ ?_ _)); refine blk_far ?_ NB417_418.out _; (with_reducible repeat (first | refine kn_ ?_ _ | refine kd_ ?_ | refine ka_ ?_ _)); refine blk_far ?_ NB417_418.out _; (with_reducible repeat (first | refine kn_ ?_ _ | refine kd_ ?_ | refine ka_ ?_ _)); refine blk_put (cs := #[.slice Ao10 t423.length co10, .int .i64 0]) ?_ 1 _ rfl; (with_reducible repeat (first | refine kn_ ?_ _ | refine kd_ ?_ | refine ka_ ?_ _)); refine blk_put (cs := #[.slice none 0 0, .int .i64 0]) ?_ 0 _ rfl; (with_reducible repeat (first | refine kn_ ?_ _ | refine kd_ ?_ | refine ka_ ?_ _)); exact BK417.out) Tryz.underlying25 rfl (by kernel_rfl) rfl (by (with_reducible repeat (first | refine kn_ ?_ _ | refine kd_ ?_ | refine ka_ ?_ _)); refine blk_put (cs := #[.slice Ao14 t429.length co14, .int .i64 0]) ?_ 1 _ rfl; (with_reducible repeat (first | refine kn_ ?_ _ | refine kd_ ?_ | refine ka_ ?_ _)); refine blk_put (cs := #[.slice none 0 0, .int .i64 0]) ?_ 0 _ rfl; (with_reducible repeat (first | refine kn_ ?_ _ | refine kd_ ?_ | refine ka_ ?_ _)); refine blk_far ?_ NB418_417.out _; (with_reducible repeat (first | refine kn_ ?_ _ | refine kd_ ?_ | refine ka_ ?_ _)); refine blk_far ?_ NB418_417.out _; (with_reducible repeat (first | refine kn_ ?_ _ | refine kd_ ?_ | refine ka_ ?_ _)); exact BK418.out) Tryz.underlying25 rfl (by kernel_rfl)) rfl ?_;exact ⟨_, _, eR_, by (with_reducible repeat (first | apply ra_ | apply rn_ | apply rd_)); exact rm_ (Kd.R_far (p := ⟨gb418, 1, none⟩) (Kd.R_far (p := ⟨gb418, 0, none⟩) (Kd.R_far (p := ⟨gb417, 1, none⟩) (Kd.R_far (p := ⟨gb417, 0, none⟩) (rt_ (rt_ HO425.out BK417.out (by decide)) BK418.out (by decide)) (fun _ hk => hk.1.2) (.slice Ao10 t423.length co10)) (fun _ hk => hk.1.2) (.int .i64 t426)) (fun _ hk => hk.2) (.slice Ao14 t429.length co14)) (fun _ hk => hk.2) (.int .i64 t432)) (fun _ hk => hk.1.1.2), by (with_reducible repeat (first | apply ra_ | apply rn_ | apply rd_)); exact rm_ (Kd.R_far (p := ⟨gb418, 1, none⟩) (Kd.R_far (p := ⟨gb418, 0, none⟩) (Kd.R_far (p := ⟨gb417, 1, none⟩) (Kd.R_far (p := ⟨gb417, 0, none⟩) (rt_ (rt_ HO431.out BK417.out (by decide)) BK418.out (by decide)) (fun _ hk => hk.1.2) (.slice Ao10 t423.length co10)) (fun _ hk => hk.1.2) (.int .i64 t426)) (fun _ hk => hk.2) (.slice Ao14 t429.length co14)) (fun _ hk => hk.2) (.int .i64 t432)) (fun _ hk => hk.1.1.2), bU_ HB⟩

mutual
def impl_CommonPitches.j0 : Nat → Bool → List Int → Int → List Int → Int → Option (List Int × Bool)
 | 0, _, _, _, _, _ => none
 | k + 1, x16, x436000, x436001, x437000, x437001 => if x16 = true then (some (([] : List Int), false)) else (impl_CommonPitches.l0 k (([] : List Int)) x436000 (x436000.length : Int) 0 x437000 x437001)
def impl_CommonPitches.l0 : Nat → List Int → List Int → Int → Int → List Int → Int → Option (List Int × Bool)
 | 0, _, _, _, _, _, _ => none
 | k + 1, x6, x19, x20, x21, x437000, x437001 => if x21 < x20 then (if 0 ≤ x21 then (if x21 < (x19.length : Int) then ((slices_Contains_int_int.f k x437000 (rd x19 x21)).bind fun t443 => (if t443 = true then (if x6.length < 17592186044416 then (impl_CommonPitches.l0 k (x6 ++ [rd x19 x21]) x19 x20 (wrap64 (x21 + 1)) x437000 x437001) else (none)) else (impl_CommonPitches.l0 k x6 x19 x20 (wrap64 (x21 + 1)) x437000 x437001))) else (none)) else (none)) else (some (x6, true))
end
def impl_CommonPitches.f (k : Nat) (l0_0 : List Int) (a0_1 : Int) (l1_0 : List Int) (a1_1 : Int) : Option (List Int × Bool) := (impl_IsInstrument.f k l0_0 a0_1).bind fun t437 => (if t437 = true then ((impl_IsInstrument.f k l1_0 a1_1).bind fun t438 => (impl_CommonPitches.j0 k (!t438) l0_0 a0_1 l1_0 a1_1)) else (impl_CommonPitches.j0 k true l0_0 a0_1 l1_0 a1_1))
theorem impl_CommonPitches.mono_l : ∀ k, (∀ y0 y1 y2 y3 y4, LeO (impl_CommonPitches.j0 k y0 y1 y2 y3 y4) (impl_CommonPitches.j0 (k + 1) y0 y1 y2 y3 y4)) ∧ (∀ y0 y1 y2 y3 y4 y5, LeO (impl_CommonPitches.l0 k y0 y1 y2 y3 y4 y5) (impl_CommonPitches.l0 (k + 1) y0 y1 y2 y3 y4 y5))
 | 0 => ⟨fun _ _ _ _ _ r h => by simp [impl_CommonPitches.j0] at h, fun _ _ _ _ _ _ r h => by simp [impl_CommonPitches.l0] at h⟩
 | k + 1 => by
  obtain ⟨ih0, ih1⟩ := impl_CommonPitches.mono_l k;refine ⟨?_, ?_⟩
  ·intro y0 y1 y2 y3 y4
   unfold impl_CommonPitches.j0
   have m0_ := @impl_IsInstrument.mono;have m1_ := @slices_Contains_int_int.mono;exact mo_
  ·intro y0 y1 y2 y3 y4 y5
   unfold impl_CommonPitches.l0
   have m0_ := @impl_IsInstrument.mono;have m1_ := @slices_Contains_int_int.mono;exact mo_
theorem impl_CommonPitches.mono : ∀ a0 a1 a2 a3 k, LeO (impl_CommonPitches.f k a0 a1 a2 a3) (impl_CommonPitches.f (k + 1) a0 a1 a2 a3) := by
 intro a0 a1 a2 a3 k;obtain ⟨ih0, ih1⟩ := impl_CommonPitches.mono_l k
 unfold impl_CommonPitches.f
 have m0_ := @impl_IsInstrument.mono;have m1_ := @slices_Contains_int_int.mono;exact mo_
set_option maxHeartbeats 8000000 in
set_option maxRecDepth 100000 in
theorem impl_CommonPitches.calls (k : Nat) (A0_0 : Option Addr) (c0_0 : Nat) (l0_0 : List Int) (a0_1 : Int) (A1_0 : Option Addr) (c1_0 : Nat) (l1_0 : List Int) (a1_1 : Int) (r1 : List Int) (r2 : Bool) (w : World) (hr0_0 : Kd.C (Kd.int .i64) w A0_0 l0_0.length l0_0) (hc0_0 : l0_0.length ≤ c0_0) (hr1_0 : Kd.C (Kd.int .i64) w A1_0 l1_0.length l1_0) (hc1_0 : l1_0.length ≤ c1_0) (h : impl_CommonPitches.f k l0_0 a0_1 l1_0 a1_1 = some (r1, r2)) :
  Calls Tryz.prog 16 #[.agg #[.slice A0_0 l0_0.length c0_0, .int .i64 a0_1], .agg #[.slice A1_0 l1_0.length c1_0, .int .i64 a1_1]] w fun e w' => ∃ v0_ : Value, e = .returned (.tuple #[v0_, .bool r2]) ∧ Kd.R (Kd.int .i64) 3 w' w.heap.size (fun _ => True) v0_ r1 ∧ Below w.heap.size w w' := by
 have hu25 := Tryz.underlying25;have HR0_0 := M_ hr0_0;have HC0_0 := M_ hc0_0;clear hr0_0 hc0_0;have HR1_0 := M_ hr1_0;have HC1_0 := M_ hc1_0;clear hr1_0 hc1_0;have HB := M_ (Below.refl w.heap.size w)
 have H : ((impl_IsInstrument.f k l0_0 a0_1).bind fun t437 => (if t437 = true then ((impl_IsInstrument.f k l1_0 a1_1).bind fun t438 => (impl_CommonPitches.j0 k (!t438) l0_0 a0_1 l1_0 a1_1)) else (impl_CommonPitches.j0 k true l0_0 a0_1 l1_0 a1_1))) = some (r1, r2) := h
 clear h;have HC3 := M_ H;clear H
 go_enter Tryz.func16, Tryz.ntmps16
 go_upto_region 1 with (first | ((with_reducible refine gate_dst (N := 2) rfl ?_); refine bx_ (N := 2) (cs := #[.slice A0_0 l0_0.length c0_0, .int .i64 a0_1]) (t := 25) ?_; intro gb435 hg w4 hbox hb; have BK435 := M_ (hbox); have GW435 := M_ (gw_ HB hg); have GE435 := M_ (gw_ HB hg); replace HB := M_ (bS_ HB hb); clear hb hbox hg) | ((with_reducible refine gate_dst (N := 3) rfl ?_); refine bx_ (N := 3) (cs := #[.slice A1_0 l1_0.length c1_0, .int .i64 a1_1]) (t := 25) ?_; intro gb436 hg w5 hbox hb; have BK436 := M_ (hbox); have GW436 := M_ (gw_ HB hg); have GE436 := M_ (gw_ HB hg); replace HB := M_ (bS_ HB hb); have NB435_436 := M_ (nb_ BK435 hg); have NB436_435 := M_ ((by rw [hg]; exact Nat.ne_of_gt (blk_lt (kU_ BK435)) : gb436 ≠ gb435)); replace BK435 := M_ (kb_ BK435 hb); clear hb hbox hg))
 (try simp only [Act.put, la_, lb_, lc_])
 go_cut [16] (fun v16 wc => ∃ (kq : Nat) (x16_2 : Bool), v16 = .bool x16_2 ∧ Aside0 (impl_CommonPitches.j0 kq x16_2 l0_0 a0_1 l1_0 a1_1 = some (r1, r2)) ∧ Aside0 (kq ≤ k) ∧ Aside0 (wc.heap[gb435]? = some (.cells #[(.slice A0_0 l0_0.length c0_0), .int .i64 a0_1] 25 (0, 0))) ∧ Aside0 (wc.heap[gb436]? = some (.cells #[(.slice A1_0 l1_0.length c1_0), .int .i64 a1_1] 25 (0, 0))) ∧ Aside0 (Below w.heap.size w wc))
 case first =>
  have H := HC3.out;clear HC3;replace H := Option.bind_eq_some_iff.mp H;obtain ⟨t437, A60, H⟩ := H;(try dsimp only at H);have A6 := M_ A60;clear A60
  by_cases c7 : t437 = true
  ·subst c7
   rw [if_pos rfl] at H
   replace H := Option.bind_eq_some_iff.mp H;obtain ⟨t438, A80, H⟩ := H;(try dsimp only at H);have A8 := M_ A80;clear A80
   have H' := M_ H
   clear H;have hnb9 := NB435_436.out;have hnc9 := NB436_435.out;obtain ⟨hcz10_0, hcz10_1, hfz10_0, hfz10_1⟩ := bq2_ BK435
   go_wp2_with (first | ((with_reducible refine gc_ 23 ?_); refine gM_ (some 10) Tryz.func23 #[.agg #[.slice A0_0 l0_0.length c0_0, .int .i64 a0_1]] ?_; (with_reducible refine (impl_IsInstrument.calls k _ _ l0_0 a0_1 true _ ?side1 ?side2 A6.out).mono ?_); (case side1 => exact cU_ (Kd.C_below HR0_0.out HB.out)); (case side2 => exact HC0_0.out); rintro e w11 ⟨rfl, hb⟩; refine ⟨_, rfl, ?_⟩; replace BK435 := M_ (kb_ BK435 hb); replace BK436 := M_ (kb_ BK436 hb); replace HB := M_ (bS_ HB hb); clear hb; obtain ⟨hcz12_0, hcz12_1, hfz12_0, hfz12_1⟩ := bq2_ BK436) | (go_at_call 23; (with_reducible refine (impl_IsInstrument.calls k _ _ l1_0 a1_1 t438 _ ?side1 ?side2 A8.out).mono ?_); (case side1 => exact cU_ (Kd.C_below HR1_0.out HB.out)); (case side2 => exact HC1_0.out); rintro e w13 ⟨rfl, hb⟩; replace BK435 := M_ (kb_ BK435 hb); replace BK436 := M_ (kb_ BK436 hb); replace HB := M_ (bS_ HB hb); clear hb))
   go_meet
   case rel => exact ⟨_, (!t438), eD_, H', ⟨by first | omega | exact Nat.le_refl _⟩, ⟨kU_ BK435⟩, ⟨kU_ BK436⟩, ⟨bU_ HB⟩⟩
  ·replace c7 := Bool.eq_false_iff.mpr c7
   subst c7
   rw [if_neg (show ¬ (false = true) by decide)] at H
   have H' := M_ H
   clear H;have hnb14 := NB435_436.out;have hnc14 := NB436_435.out;obtain ⟨hcz15_0, hcz15_1, hfz15_0, hfz15_1⟩ := bq2_ BK435
   go_wp2_with (first | ((with_reducible refine gc_ 23 ?_); refine gM_ (some 10) Tryz.func23 #[.agg #[.slice A0_0 l0_0.length c0_0, .int .i64 a0_1]] ?_; (with_reducible refine (impl_IsInstrument.calls k _ _ l0_0 a0_1 false _ ?side1 ?side2 A6.out).mono ?_); (case side1 => exact cU_ (Kd.C_below HR0_0.out HB.out)); (case side2 => exact HC0_0.out); rintro e w16 ⟨rfl, hb⟩; refine ⟨_, rfl, ?_⟩; replace BK435 := M_ (kb_ BK435 hb); replace BK436 := M_ (kb_ BK436 hb); replace HB := M_ (bS_ HB hb); clear hb))
   go_meet
   case rel => exact ⟨_, (true), eD_, H', ⟨by first | omega | exact Nat.le_refl _⟩, ⟨kU_ BK435⟩, ⟨kU_ BK436⟩, ⟨bU_ HB⟩⟩
 case rest =>
  clear HC3;obtain ⟨kq, x16_2, rfl, HA, HJ2, BK435, BK436, HB⟩ := hcut
  cases kq with
  | zero => exact absurd HA.out (by simp [impl_CommonPitches.j0])
  | succ kj2 =>
   have H := HA.out;clear HA;simp only [impl_CommonPitches.j0] at H
   by_cases c17 : x16_2 = true
   ·subst c17
    rw [if_pos rfl] at H
    simp only [Option.some.injEq, Prod.mk.injEq] at H;obtain ⟨rfl, rfl⟩ := H
    go_wp2
    go_ret2
    exact ⟨_, eR_, by first | exact Kd.R_nil _ _ _ _ _ | exact Kd.N_nil _ _ _ _ _ | exact Kd.V_nil _ _ _ _ _ | exact Kd.Q_nil _ _ _ _ _ | exact Kd.S_nil _ _ _ _ _, bU_ HB⟩
   ·replace c17 := Bool.eq_false_iff.mpr c17
    subst c17
    rw [if_neg (show ¬ (false = true) by decide)] at H
    obtain ⟨y439, hy439⟩ : ∃ y_ : List Int, y_ = (([] : List Int)) := ⟨_, rfl⟩
    replace H : (impl_CommonPitches.l0 kj2 y439 l0_0 (l0_0.length : Int) 0 l1_0 a1_1) = some (r1, r2) := by first | (rw [hy439]; with_reducible exact H) | (have H2_ := (Option.bind_some _ _).symm.trans H; rw [hy439]; with_reducible exact H2_) | (have H2_ := (Option.bind_some _ _).symm.trans H; with_reducible exact H2_) | with_reducible exact H | (rw [hy439]; exact H) | exact H
    have Ny439 := M_ hy439;clear hy439
    have H' := M_ H
    clear H
    go_wp2_with (first | ((with_reducible refine gate_dst (N := 17) rfl ?_); refine lt_ (Kd.int .i64) 3 (N := 17) (([] : List Int)) [] ri_ ?_; intro v440 w18 ho19 hb hg_ hnew_; clear hg_ hnew_; replace ho19 := rN_ Ny439 ho19; have HO441 := M_ (Kd.R_lower ho19 (bZ_ HB)); replace BK435 := M_ (kb_ BK435 hb); replace BK436 := M_ (kb_ BK436 hb); replace HB := M_ (bS_ HB hb); clear hb ho19; have hnb20 := NB435_436.out; have hnc20 := NB436_435.out; obtain ⟨hcz21_0, hcz21_1, hfz21_0, hfz21_1⟩ := bq2_ BK435))
    go_loopg [6, 21] kj2 (fun kq v6 v21 w' => ∃ (x6_2 : List Int) (x21_2 : Int), v21 = .int .i64 x21_2 ∧ Aside0 (impl_CommonPitches.l0 kq x6_2 l0_0 (l0_0.length : Int) x21_2 l1_0 a1_1 = some (r1, r2)) ∧ Aside0 (kq ≤ kj2) ∧ Aside0 (Kd.R (Kd.int .i64) 3 w' w.heap.size (fun _ => True) v6 x6_2) ∧ Aside0 (w'.heap[gb435]? = some (.cells #[(.slice A0_0 l0_0.length c0_0), .int .i64 a0_1] 25 (0, 0))) ∧ Aside0 (w'.heap[gb436]? = some (.cells #[(.slice A1_0 l1_0.length c1_0), .int .i64 a1_1] 25 (0, 0))) ∧ Aside0 (Below w.heap.size w w'))
    case atStart => exact ⟨(y439), (0), eD_, H', ⟨Nat.le_refl _⟩, ⟨rU_ HO441.out⟩, ⟨kU_ BK435⟩, ⟨kU_ BK436⟩, ⟨bU_ HB⟩⟩
    case round =>
     clear H';obtain ⟨x6_2, x21_2, rfl, HA, HK2, HO_6, BK435, BK436, HB⟩ := hrel
     cases gk with
     | zero => exact absurd HA.out (by simp [impl_CommonPitches.l0])
     | succ k2 =>
      have H := HA.out;clear HA;simp only [impl_CommonPitches.l0] at H
      by_cases c22 : x21_2 < (l0_0.length : Int)
      ·rw [if_pos c22] at H
       have c22b0 : decide (x21_2 < (l0_0.length : Int)) = true := decide_eq_true c22
       clear c22
       by_cases c23 : 0 ≤ x21_2
       ·rw [if_pos c23] at H
        have c23b0 : decide (0 ≤ x21_2) = true := decide_eq_true c23
        clear c23
        by_cases c24 : x21_2 < (l0_0.length : Int)
        ·rw [if_pos c24] at H
         have c24b0 : decide (x21_2 < (l0_0.length : Int)) = true := decide_eq_true c24
         clear c24;replace H := Option.bind_eq_some_iff.mp H;obtain ⟨t443, A250, H⟩ := H;(try dsimp only at H);have A25 := M_ A250;clear A250
         by_cases c26 : t443 = true
         ·subst c26
          rw [if_pos rfl] at H
          by_cases c27 : x6_2.length < 17592186044416
          ·rw [if_pos c27] at H
           have LMc27 := M_ c27;clear c27;obtain ⟨y444, hy444⟩ : ∃ y_ : List Int, y_ = (x6_2 ++ [rd l0_0 x21_2]) := ⟨_, rfl⟩
           replace H : (impl_CommonPitches.l0 k2 y444 l0_0 (l0_0.length : Int) (wrap64 (x21_2 + 1)) l1_0 a1_1) = some (r1, r2) := by first | (rw [hy444]; with_reducible exact H) | (have H2_ := (Option.bind_some _ _).symm.trans H; rw [hy444]; with_reducible exact H2_) | (have H2_ := (Option.bind_some _ _).symm.trans H; with_reducible exact H2_) | with_reducible exact H | (rw [hy444]; exact H) | exact H
           have Ny444 := M_ hy444;clear hy444
           have H' := M_ H
           clear H
           have p442 : 0 ≤ (x21_2 : Int) := dT_
           have q442 : x21_2 < (l0_0.length : Int) := dT_
           obtain ⟨ad442, e442, hx442_0⟩ := Kd.at_int HR0_0.out x21_2 p442 q442;cases e442;replace hx442_0 := (HB.out.cell (World.block_lt_of_cell? w _ hx442_0)).trans hx442_0;replace p442 := eq_true p442;replace q442 := eq_true q442;have hnb28 := NB436_435.out;have hnc28 := NB435_436.out;obtain ⟨hcz29_0, hcz29_1, hfz29_0, hfz29_1⟩ := bq2_ BK436
           go_wp2_with (first | ((with_reducible refine gc_ 31 ?_); refine gM_ (some 28) Tryz.func31 #[.slice A1_0 l1_0.length c1_0, .int .i64 (rd l0_0 x21_2)] ?_; (with_reducible refine (slices_Contains_int_int.calls k2 _ _ l1_0 (rd l0_0 x21_2) true _ ?side1 ?side2 A25.out).mono ?_); (case side1 => exact cU_ (Kd.C_below HR1_0.out HB.out)); (case side2 => exact HC1_0.out); rintro e w' ⟨rfl, ⟨nd, rfl⟩⟩; refine ⟨_, rfl, ?_⟩) | ((with_reducible refine gate_builtin (b := .append) (xs := #[.tmp 29, .tmp 31]) rfl ?_); at_builtin; refine Kd.R_append (Kd.int .i64) (w0 := w) w.heap.size rfl (.tmp 29) (.tmp 31) 23 3 (.int .i64 0) 8 rfl Tryz.underlying23 info3 rfl (by decide) (by omega) u6 x6_2 (rd l0_0 x21_2) [.int .i64 (rd l0_0 x21_2)] (fun _ => True) (fun _ => False) rfl rfl ?aP (fun _ hk => hk.elim) ?aF ?aO ?aB ?aS ?aL ?_; (case aP => exact rfl); (case aB => exact (bU_ HB)); (case aF => exact (fun _ _ => trivial)); (case aO => exact (rU_ HO_6.out)); (case aS => exact (bZ_ HB)); (case aL => have := LMc27.out; omega); intro v445 w30 ho hb hg hat; rw [← Ny444.out] at ho; replace BK435 := M_ (kg_ BK435 hg (Kd.R_ne HO_6.out BK435.out (by decide))); replace BK436 := M_ (kg_ BK436 hg (Kd.R_ne HO_6.out BK436.out (by decide))); replace HB := M_ (hb); have HO446 := M_ (ho); clear HO_6; clear ho hb hg hat))
           go_roundg k2
           case measure => have := HJ2.out; have := HK2.out; omega
           case rel => exact ⟨(y444), (wrap64 (x21_2 + 1)), eD_, H', ⟨by have := HJ2.out; have := HK2.out; omega⟩, ⟨rU_ HO446.out⟩, ⟨kU_ BK435⟩, ⟨kU_ BK436⟩, ⟨bU_ HB⟩⟩
          ·rw [if_neg c27] at H
           exact absurd H (by simp)
         ·replace c26 := Bool.eq_false_iff.mpr c26
          subst c26
          rw [if_neg (show ¬ (false = true) by decide)] at H
          have H' := M_ H
          clear H
          have p442 : 0 ≤ (x21_2 : Int) := dT_
          have q442 : x21_2 < (l0_0.length : Int) := dT_
          obtain ⟨ad442, e442, hx442_0⟩ := Kd.at_int HR0_0.out x21_2 p442 q442;cases e442;replace hx442_0 := (HB.out.cell (World.block_lt_of_cell? w _ hx442_0)).trans hx442_0;replace p442 := eq_true p442;replace q442 := eq_true q442;have hnb31 := NB436_435.out;have hnc31 := NB435_436.out;obtain ⟨hcz32_0, hcz32_1, hfz32_0, hfz32_1⟩ := bq2_ BK436
          go_wp2_with (first | ((with_reducible refine gc_ 31 ?_); refine gM_ (some 28) Tryz.func31 #[.slice A1_0 l1_0.length c1_0, .int .i64 (rd l0_0 x21_2)] ?_; (with_reducible refine (slices_Contains_int_int.calls k2 _ _ l1_0 (rd l0_0 x21_2) false _ ?side1 ?side2 A25.out).mono ?_); (case side1 => exact cU_ (Kd.C_below HR1_0.out HB.out)); (case side2 => exact HC1_0.out); rintro e w' ⟨rfl, ⟨nd, rfl⟩⟩; refine ⟨_, rfl, ?_⟩))
          go_roundg k2
          case measure => have := HJ2.out; have := HK2.out; omega
          case rel => exact ⟨(x6_2), (wrap64 (x21_2 + 1)), eD_, H', ⟨by have := HJ2.out; have := HK2.out; omega⟩, ⟨rU_ HO_6.out⟩, ⟨kU_ BK435⟩, ⟨kU_ BK436⟩, ⟨bU_ HB⟩⟩
        ·rw [if_neg c24] at H
         exact absurd H (by simp)
       ·rw [if_neg c23] at H
        exact absurd H (by simp)
      ·rw [if_neg c22] at H
       have c22b0 : decide (x21_2 < (l0_0.length : Int)) = false := decide_eq_false c22
       clear c22;simp only [Option.some.injEq, Prod.mk.injEq] at H;obtain ⟨rfl, rfl⟩ := H
       go_wp2
       go_ret2
       exact ⟨_, eR_, rU_ HO_6.out, bU_ HB⟩

end Go.Proofs.YtpkklbjdhmpjnaaGreatDoor.PFnInstruments
