-- by wip/xprint.py, over the kit's printer
import Derived.Test.YtjgpngeifgcidaaPFnTemposx0
import Derived.Test.YtjgpngeifgcidaaPFnTemposx1
import Derived.Test.YtjgpngeifgcidaaPFnTemposx2
import Derived.Test.YtjgpngeifgcidaaPFnTemposx3
import Derived.Test.YtjgpngeifgcidaaPFnTemposx5
import Derived.Test.YtjgpngeifgcidaaPFnTemposx7
import Derived.Test.YtjgpngeifgcidaaPFnTemposx9
import Derived.Test.YtjgpngeifgcidaaPFnTemposx10
namespace Go.Proofs.Ytjgpngeifgcidaa.PFnTempos
open Go.RowKit Go.Proofs.YtjgpngeifgcidaaW.PrintWords Go.Proofs.YtjgpngeifgcidaaW.PrintLast Go.Proofs.YtjgpngeifgcidaaW.PrintMore
attribute [local go_sem] max2_int min2_int max_two min_two max_three min_three max_four min_four   -- for this text's walks alone
set_option linter.unusedVariables false
set_option linter.unusedSimpArgs false
private abbrev M_ {p : Prop} (h : p) : Aside0 p := Aside0.mk h
private abbrev la_ := @List.setIfInBounds_toArray
private abbrev lb_ := @List.set_cons_zero
private abbrev lc_ := @List.set_cons_succ
private abbrev bn_ := @pw_below_drewN
private abbrev b1_ := @below_drew1
private abbrev ba_ := @below_alloc
private abbrev bs_ := @below_set
private abbrev kn_ := @blk_drewN
private abbrev ka_ := @blk_alloc
private abbrev kd_ := @blk_drew
private abbrev rn_ := @Kd.R_drewN
private abbrev ra_ := @Kd.R_alloc
private abbrev rd_ := @Kd.R_drew
private abbrev rb_ := @Kd.R_below
private abbrev rm_ := @Kd.R_mono
private abbrev rt_ := @Kd.R_types

attribute [local go_sem high] eqA48
def spec_DrawTimeBetween.f (k : Nat) (l0 : List Int) : Option ((List (S48)) × Int × Int) := (newCur.f l0).bind fun bt324 => ((spec_l1Cur_pieceStep.f bt324.1 bt324.2.1 bt324.2.2).bind fun bt328 => ((spec_l1Cur_anyTempos.f k bt324.1 bt328.2.1 bt328.2.2).bind fun bt331 => ((spec_l1Cur_pick.f bt324.1 bt331.2.1 bt331.2.2 50).bind fun bt336 => ((spec_l1Cur_pieceStep.f bt324.1 bt336.2.1 bt336.2.2).bind fun bt339 => ((spec_l1Cur_among.f bt324.1 bt339.2.1 bt339.2.2 (([bt328.1, wrap64 (bt328.1 + 1), wrap64 (bt328.1 + bt336.1), 2000, bt339.1] : List Int))).bind fun bt345 => (some (bt331.1, bt328.1, bt345.1)))))))
theorem spec_DrawTimeBetween.mono : ∀ a0 k, LeO (spec_DrawTimeBetween.f k a0) (spec_DrawTimeBetween.f (k + 1) a0) := by
 intro a0 k
 unfold spec_DrawTimeBetween.f
 repeat' first
   | (with_reducible exact spec_l1Cur_anyTempos.mono _ _ _ _)
   | (with_reducible exact LeO.refl _)
   | (with_reducible exact LeO.none _)
   | (with_reducible refine LeO.ite ?_ ?_)
   | (with_reducible refine LeO.bind ?_ (fun _ => ?_))
   | exact spec_l1Cur_anyTempos.mono _ _ _ _
   | exact LeO.none _
   | refine LeO.ite ?_ ?_
   | refine LeO.bind ?_ (fun _ => ?_)
set_option maxHeartbeats 8000000 in
set_option maxRecDepth 100000 in
theorem spec_DrawTimeBetween.calls (k : Nat) (A0 : Option Addr) (c0 : Nat) (l0 : List Int) (r1 : List (S48)) (r2 : Int) (r3 : Int) (w : World) (hr0 : Kd.C (Kd.int .u8) w A0 l0.length l0) (hc0 : l0.length ≤ c0) (h : spec_DrawTimeBetween.f k l0 = some (r1, r2, r3)) :
  Calls Try.prog 60 #[.slice A0 l0.length c0] w fun e w' => ∃ v0_ : Value, e = .returned (.tuple #[v0_, .int .i64 r2, .int .i64 r3]) ∧ Kd.R k48 48 w' w.heap.size (fun _ => True) v0_ r1 ∧ Below w.heap.size w w' := by
 have HR0 := M_ hr0
 have HC0 := M_ hc0
 clear hr0 hc0
 have HB := M_ (Below.refl w.heap.size w)
 have H : ((newCur.f l0).bind fun bt324 => ((spec_l1Cur_pieceStep.f bt324.1 bt324.2.1 bt324.2.2).bind fun bt328 => ((spec_l1Cur_anyTempos.f k bt324.1 bt328.2.1 bt328.2.2).bind fun bt331 => ((spec_l1Cur_pick.f bt324.1 bt331.2.1 bt331.2.2 50).bind fun bt336 => ((spec_l1Cur_pieceStep.f bt324.1 bt336.2.1 bt336.2.2).bind fun bt339 => ((spec_l1Cur_among.f bt324.1 bt339.2.1 bt339.2.2 (([bt328.1, wrap64 (bt328.1 + 1), wrap64 (bt328.1 + bt336.1), 2000, bt339.1] : List Int))).bind fun bt345 => (some (bt331.1, bt328.1, bt345.1)))))))) = some (r1, r2, r3) := h
 clear h
 replace H := Option.bind_eq_some_iff.mp H
 obtain ⟨⟨t324, t325, t326⟩, A20, H⟩ := H
 replace H : ((spec_l1Cur_pieceStep.f t324 t325 t326).bind fun bt328 => ((spec_l1Cur_anyTempos.f k t324 bt328.2.1 bt328.2.2).bind fun bt331 => ((spec_l1Cur_pick.f t324 bt331.2.1 bt331.2.2 50).bind fun bt336 => ((spec_l1Cur_pieceStep.f t324 bt336.2.1 bt336.2.2).bind fun bt339 => ((spec_l1Cur_among.f t324 bt339.2.1 bt339.2.2 (([bt328.1, wrap64 (bt328.1 + 1), wrap64 (bt328.1 + bt336.1), 2000, bt339.1] : List Int))).bind fun bt345 => (some (bt331.1, bt328.1, bt345.1))))))) = some (r1, r2, r3) := H
 have A2 := M_ A20
 clear A20
 replace H := Option.bind_eq_some_iff.mp H
 obtain ⟨⟨t328, t329, t330⟩, A30, H⟩ := H
 replace H : ((spec_l1Cur_anyTempos.f k t324 t329 t330).bind fun bt331 => ((spec_l1Cur_pick.f t324 bt331.2.1 bt331.2.2 50).bind fun bt336 => ((spec_l1Cur_pieceStep.f t324 bt336.2.1 bt336.2.2).bind fun bt339 => ((spec_l1Cur_among.f t324 bt339.2.1 bt339.2.2 (([t328, wrap64 (t328 + 1), wrap64 (t328 + bt336.1), 2000, bt339.1] : List Int))).bind fun bt345 => (some (bt331.1, t328, bt345.1)))))) = some (r1, r2, r3) := H
 have A3 := M_ A30
 clear A30
 replace H := Option.bind_eq_some_iff.mp H
 obtain ⟨⟨t331, t334, t335⟩, A40, H⟩ := H
 replace H : ((spec_l1Cur_pick.f t324 t334 t335 50).bind fun bt336 => ((spec_l1Cur_pieceStep.f t324 bt336.2.1 bt336.2.2).bind fun bt339 => ((spec_l1Cur_among.f t324 bt339.2.1 bt339.2.2 (([t328, wrap64 (t328 + 1), wrap64 (t328 + bt336.1), 2000, bt339.1] : List Int))).bind fun bt345 => (some (t331, t328, bt345.1))))) = some (r1, r2, r3) := H
 have A4 := M_ A40
 clear A40
 replace H := Option.bind_eq_some_iff.mp H
 obtain ⟨⟨t336, t337, t338⟩, A50, H⟩ := H
 replace H : ((spec_l1Cur_pieceStep.f t324 t337 t338).bind fun bt339 => ((spec_l1Cur_among.f t324 bt339.2.1 bt339.2.2 (([t328, wrap64 (t328 + 1), wrap64 (t328 + t336), 2000, bt339.1] : List Int))).bind fun bt345 => (some (t331, t328, bt345.1)))) = some (r1, r2, r3) := H
 have A5 := M_ A50
 clear A50
 replace H := Option.bind_eq_some_iff.mp H
 obtain ⟨⟨t339, t340, t341⟩, A60, H⟩ := H
 replace H : ((spec_l1Cur_among.f t324 t340 t341 (([t328, wrap64 (t328 + 1), wrap64 (t328 + t336), 2000, t339] : List Int))).bind fun bt345 => (some (t331, t328, bt345.1))) = some (r1, r2, r3) := H
 have A6 := M_ A60
 clear A60
 obtain ⟨y342, hy342⟩ : ∃ y_ : List Int, y_ = (([t328, wrap64 (t328 + 1), wrap64 (t328 + t336), 2000, t339] : List Int)) := ⟨_, rfl⟩
 replace H : ((spec_l1Cur_among.f t324 t340 t341 y342).bind fun bt345 => (some (t331, t328, bt345.1))) = some (r1, r2, r3) := by first | (rw [hy342]; with_reducible exact H) | (have H2_ := (Option.bind_some _ _).symm.trans H; rw [hy342]; with_reducible exact H2_) | (have H2_ := (Option.bind_some _ _).symm.trans H; with_reducible exact H2_) | with_reducible exact H | (rw [hy342]; exact H) | exact H
 have Ny342 := M_ hy342
 clear hy342
 replace H := Option.bind_eq_some_iff.mp H
 obtain ⟨⟨t345, t346, t347⟩, A70, H⟩ := H
 replace H : (some (t331, t328, t345)) = some (r1, r2, r3) := H
 have A7 := M_ A70
 clear A70
 simp only [Option.some.injEq, Prod.mk.injEq] at H
 obtain ⟨rfl, rfl, rfl⟩ := H
 go_enter Try.func60, Try.ntmps60
 go_wp2_with (first | ((with_reducible refine gate_dst (N := 9) rfl ?_); refine box_event ?hg (N := 9) ?hd (cs := #[.slice A0 l0.length c0, .int .i64 0, .int .u64 0]) (t := 127) ?hr ?_; (case hd => rfl); (case hg => rfl); (case hr => first | (go_simp; done) | (go_simp; rfl)); intro g327 hg w8 hbox hb2; have hb := below_step (by repeat (first | (with_reducible first | exact HB.out | apply ba_ | apply bn_ | apply b1_) | exact HB.out)) hb2; have hi := newCur_is A2.out (by exact HR0.out) hbox (by rw [hg]; exact (below_size (by repeat (first | (with_reducible first | exact HB.out | apply ba_ | apply bn_ | apply b1_) | exact HB.out)))); clear hg hbox; have n0_ := M_ (hb); have n1_ := M_ (hi); clear HB; have HB := n0_; have HI327 := n1_; clear n0_ n1_; (try clear hb); (try clear hb2); (try clear hk); (try clear hi)) | ((with_reducible refine gate_callee (f := 120) rfl ?_); refine goesL_ (some 11) rfl rfl Try.func120 (by kernel_rfl) rfl #[.pointer (some ⟨g327, 0, none⟩)] rfl (by (try simp only [List.map_toArray, List.map_cons, List.map_nil]); first | done | rfl | (simp only [List.length_drop, List.length_take]; rfl)) ?_; (with_reducible refine (spec_l1Cur_pieceStep.calls g327 t324 t325 t326 t328 t329 t330 w _ ?side1 ?side2 A3.out).mono ?_); (case side1 => repeat (first | (with_reducible first | exact HI327.out | apply IsS127.alloc | apply IsS127.drewN | apply IsS127.drew | apply IsS127.set_1 | apply IsS127.set_2) | exact HI327.out)); (case side2 => repeat (first | (with_reducible first | exact HB.out | apply ba_ | apply bn_ | apply b1_ | refine bs_ ?_ (IsS127.ge HI327.out)) | exact HB.out)); rintro e w9 ⟨rfl, hi, hb, hk⟩; refine ⟨_, rfl, ?_⟩; have n0_ := M_ (hb); have n1_ := M_ (hi); clear HB; clear HI327; have HB := n0_; have HI327 := n1_; clear n0_ n1_; (try clear hb); (try clear hb2); (try clear hk); (try clear hi)) | ((with_reducible refine gate_callee (f := 116) rfl ?_); refine goesL_ (some 13) rfl rfl Try.func116 (by kernel_rfl) rfl #[.pointer (some ⟨g327, 0, none⟩)] rfl (by (try simp only [List.map_toArray, List.map_cons, List.map_nil]); first | done | rfl | (simp only [List.length_drop, List.length_take]; rfl)) ?_; (with_reducible refine (spec_l1Cur_anyTempos.calls k g327 t324 t329 t330 t331 t334 t335 w _ ?side1 ?side2 A4.out).mono ?_); (case side1 => repeat (first | (with_reducible first | exact HI327.out | apply IsS127.alloc | apply IsS127.drewN | apply IsS127.drew | apply IsS127.set_1 | apply IsS127.set_2) | exact HI327.out)); (case side2 => repeat (first | (with_reducible first | exact HB.out | apply ba_ | apply bn_ | apply b1_ | refine bs_ ?_ (IsS127.ge HI327.out)) | exact HB.out)); rintro e w10 ⟨v332, rfl, ho0, hi, hb, hk⟩; refine ⟨_, rfl, ?_⟩; have n0_ := M_ (Kd.R_lower ho0 (below_size (by repeat (first | (with_reducible first | exact HB.out | apply ba_ | apply bn_ | apply b1_ | refine bs_ ?_ (IsS127.ge HI327.out)) | exact HB.out)))); have n1_ := M_ (hb); have n2_ := M_ (hi); clear HB; clear HI327; have HO333 := n0_; have HB := n1_; have HI327 := n2_; clear n0_ n1_ n2_; (try clear hb); (try clear hb2); (try clear hk); (try clear hi); (try clear ho0)) | ((with_reducible refine gate_callee (f := 118) rfl ?_); refine goesL_ (some 21) rfl rfl Try.func118 (by kernel_rfl) rfl #[.pointer (some ⟨g327, 0, none⟩), .int .i64 50] rfl (by (try simp only [List.map_toArray, List.map_cons, List.map_nil]); first | done | rfl | (simp only [List.length_drop, List.length_take]; rfl)) ?_; (with_reducible refine (spec_l1Cur_pick.calls g327 t324 t334 t335 50 t336 t337 t338 w _ ?side1 ?side2 A5.out).mono ?_); (case side1 => repeat (first | (with_reducible first | exact HI327.out | apply IsS127.alloc | apply IsS127.drewN | apply IsS127.drew | apply IsS127.set_1 | apply IsS127.set_2) | exact HI327.out)); (case side2 => repeat (first | (with_reducible first | exact HB.out | apply ba_ | apply bn_ | apply b1_ | refine bs_ ?_ (IsS127.ge HI327.out)) | exact HB.out)); rintro e w11 ⟨rfl, hi, hb, hk⟩; refine ⟨_, rfl, ?_⟩; have n0_ := M_ (rm_ (Kd.R_keep (IsS127.apart (show IsS127 w _ g327 t324 t334 t335 from by repeat (first | (with_reducible first | exact HI327.out | apply IsS127.alloc | apply IsS127.drewN | apply IsS127.drew | apply IsS127.set_1 | apply IsS127.set_2) | exact HI327.out)) (by (with_reducible repeat (first | apply ra_ | apply rn_ | apply rd_)); exact HO333.out) (by decide)) hk (fun _ h => h.2)) (fun _ h => h.1)); have n1_ := M_ (hb); have n2_ := M_ (hi); clear HO333; clear HB; clear HI327; have HO333 := n0_; have HB := n1_; have HI327 := n2_; clear n0_ n1_ n2_; (try clear hb); (try clear hb2); (try clear hk); (try clear hi)) | ((with_reducible refine gate_callee (f := 120) rfl ?_); refine goesL_ (some 24) rfl rfl Try.func120 (by kernel_rfl) rfl #[.pointer (some ⟨g327, 0, none⟩)] rfl (by (try simp only [List.map_toArray, List.map_cons, List.map_nil]); first | done | rfl | (simp only [List.length_drop, List.length_take]; rfl)) ?_; (with_reducible refine (spec_l1Cur_pieceStep.calls g327 t324 t337 t338 t339 t340 t341 w _ ?side1 ?side2 A6.out).mono ?_); (case side1 => repeat (first | (with_reducible first | exact HI327.out | apply IsS127.alloc | apply IsS127.drewN | apply IsS127.drew | apply IsS127.set_1 | apply IsS127.set_2) | exact HI327.out)); (case side2 => repeat (first | (with_reducible first | exact HB.out | apply ba_ | apply bn_ | apply b1_ | refine bs_ ?_ (IsS127.ge HI327.out)) | exact HB.out)); rintro e w12 ⟨rfl, hi, hb, hk⟩; refine ⟨_, rfl, ?_⟩; have n0_ := M_ (rm_ (Kd.R_keep (IsS127.apart (show IsS127 w _ g327 t324 t337 t338 from by repeat (first | (with_reducible first | exact HI327.out | apply IsS127.alloc | apply IsS127.drewN | apply IsS127.drew | apply IsS127.set_1 | apply IsS127.set_2) | exact HI327.out)) (by (with_reducible repeat (first | apply ra_ | apply rn_ | apply rd_)); exact HO333.out) (by decide)) hk (fun _ h => h.2)) (fun _ h => h.1)); have n1_ := M_ (hb); have n2_ := M_ (hi); clear HO333; clear HB; clear HI327; have HO333 := n0_; have HB := n1_; have HI327 := n2_; clear n0_ n1_ n2_; (try clear hb); (try clear hb2); (try clear hk); (try clear hi)) | ((with_reducible refine gate_dst (N := 25) rfl ?_); refine Kd.R_lit (Kd.int .i64) _ 3 ?hg (N := 25) ?hd (xs := ([t328, wrap64 (t328 + 1), wrap64 (t328 + t336), 2000, t339] : List Int)) (inner := [.int .i64 t328, .int .i64 (wrap64 (t328 + 1)), .int .i64 (wrap64 (t328 + t336)), .int .i64 2000, .int .i64 t339]) (ok := fun _ => True) (okp := fun _ => True) ?hr ?hp (fun _ hk => hk) trivial (Below.refl _ _) (Nat.le_refl _) (by simp) ?_; (case hd => rfl); (case hg => rfl); (case hr => first | (go_simp; done) | (go_simp; rfl)); (case hp => exact (Reps.one (show Kd.M (Kd.int .i64) _ _ _ t328 [.int .i64 t328] from rfl) (Reps.one (show Kd.M (Kd.int .i64) _ _ _ (wrap64 (t328 + 1)) [.int .i64 (wrap64 (t328 + 1))] from rfl) (Reps.one (show Kd.M (Kd.int .i64) _ _ _ (wrap64 (t328 + t336)) [.int .i64 (wrap64 (t328 + t336))] from rfl) (Reps.one (show Kd.M (Kd.int .i64) _ _ _ 2000 [.int .i64 2000] from rfl) (Reps.one (show Kd.M (Kd.int .i64) _ _ _ t339 [.int .i64 t339] from rfl) (Reps.none _ _))))))); intro v343 w13 ho14 hb hg_ hnew_; clear hg_ hnew_; (first | rw [← Ny342.out] at ho14 | (simp only [Int.reduceToNat] at ho14; rw [← Ny342.out] at ho14)); have n0_ := M_ (rb_ (by (with_reducible repeat (first | apply ra_ | apply rn_ | apply rd_)); exact HO333.out) hb); have n1_ := M_ (Kd.R_lower ho14 (below_size (by repeat (first | (with_reducible first | exact HB.out | apply ba_ | apply bn_ | apply b1_ | refine bs_ ?_ (IsS127.ge HI327.out)) | exact HB.out)))); have n2_ := M_ (IsS127.below (by repeat (first | (with_reducible first | exact HI327.out | apply IsS127.alloc | apply IsS127.drewN | apply IsS127.drew | apply IsS127.set_1 | apply IsS127.set_2) | exact HI327.out)) hb); have n3_ := M_ (below_step (by repeat (first | (with_reducible first | exact HB.out | apply ba_ | apply bn_ | apply b1_ | refine bs_ ?_ (IsS127.ge HI327.out)) | exact HB.out)) hb); clear HO333; clear HI327; clear HB; have HO333 := n0_; have HO344 := n1_; have HI327 := n2_; have HB := n3_; clear n0_ n1_ n2_ n3_; clear hb ho14; obtain ⟨Ao15, co15, eo15⟩ := Kd.R_slice HO344.out; subst eo15) | ((with_reducible refine gate_callee (f := 117) rfl ?_); refine goesL_ (some 26) rfl rfl Try.func117 (by kernel_rfl) rfl #[.pointer (some ⟨g327, 0, none⟩), .slice Ao15 y342.length co15] rfl (by (try simp only [List.map_toArray, List.map_cons, List.map_nil]); first | done | rfl | (simp only [List.length_drop, List.length_take]; rfl)) ?_; (with_reducible refine (spec_l1Cur_among.calls g327 t324 t340 t341 _ _ y342 t345 t346 t347 w _ ?side1 ?side2 ?side3 ?side4 ?side5 A7.out).mono ?_); (case side1 => repeat (first | (with_reducible first | exact HI327.out | apply IsS127.alloc | apply IsS127.drewN | apply IsS127.drew | apply IsS127.set_1 | apply IsS127.set_2) | exact HI327.out)); (case side2 => repeat (first | (with_reducible first | exact HB.out | apply ba_ | apply bn_ | apply b1_ | refine bs_ ?_ (IsS127.ge HI327.out)) | exact HB.out)); (case side3 => repeat (first | exact (Kd.R_reads' HO344.out).2.2 | (with_reducible refine Kd.C_alloc ?_ _) | (with_reducible refine Kd.C_drewN ?_ _) | (with_reducible refine Kd.C_drew ?_))); (case side4 => exact (Kd.R_reads' HO344.out).2.1); (case side5 => exact far_slice (IsS127.own_ne HI327.out HO344.out (by decide))); rintro e w16 ⟨rfl, hi, hb, hk⟩; refine ⟨_, rfl, ?_⟩; have n0_ := M_ (rm_ (Kd.R_keep (IsS127.apart (show IsS127 w _ g327 t324 t340 t341 from by repeat (first | (with_reducible first | exact HI327.out | apply IsS127.alloc | apply IsS127.drewN | apply IsS127.drew | apply IsS127.set_1 | apply IsS127.set_2) | exact HI327.out)) (by (with_reducible repeat (first | apply ra_ | apply rn_ | apply rd_)); exact HO333.out) (by decide)) hk (fun _ h => h.2)) (fun _ h => h.1)); have n1_ := M_ (rm_ (Kd.R_keep (IsS127.apart (show IsS127 w _ g327 t324 t340 t341 from by repeat (first | (with_reducible first | exact HI327.out | apply IsS127.alloc | apply IsS127.drewN | apply IsS127.drew | apply IsS127.set_1 | apply IsS127.set_2) | exact HI327.out)) (by (with_reducible repeat (first | apply ra_ | apply rn_ | apply rd_)); exact HO344.out) (by decide)) hk (fun _ h => h.2)) (fun _ h => h.1)); have n2_ := M_ (hb); have n3_ := M_ (hi); clear HO333; clear HO344; clear HB; clear HI327; have HO333 := n0_; have HO344 := n1_; have HB := n2_; have HI327 := n3_; clear n0_ n1_ n2_ n3_; (try clear hb); (try clear hb2); (try clear hk); (try clear hi)))
 go_ret3
 exact ⟨_, by first | rfl | (simp [errW_none, errW_some] <;> rfl) | (simp [*, errW_none, errW_some] <;> rfl), by (with_reducible repeat (first | apply ra_ | apply rn_ | apply rd_)); exact HO333.out, by repeat (first | (with_reducible first | exact HB.out | apply ba_ | apply bn_ | apply b1_ | refine bs_ ?_ (IsS127.ge HI327.out)) | exact HB.out)⟩

def impl_TimeBetween.j0 : Nat → List (S48) → Int → Int → Bool → Option (Int × Bool)
 | 0, _, _, _, _ => none
 | k + 1, x0, x1, x2, x25 => if x25 = true then (some (0, false)) else ((impl_timeOf.f k x0 x2).bind fun t351 => ((impl_timeOf.f k x0 x1).bind fun t352 => (some (wrap64 (t351 - t352), true))))
def impl_TimeBetween.f (k : Nat) (l0 : List (S48)) (a1 : Int) (a2 : Int) : Option (Int × Bool) := (impl_AreTempos.f k l0).bind fun t348 => (if t348 = true then ((impl_isTempoStep.f a1).bind fun t349 => (if t349 = true then ((impl_isTempoStep.f a2).bind fun t350 => (if t350 = true then (impl_TimeBetween.j0 k l0 a1 a2 (decide (a1 > a2))) else (impl_TimeBetween.j0 k l0 a1 a2 true))) else (impl_TimeBetween.j0 k l0 a1 a2 true))) else (impl_TimeBetween.j0 k l0 a1 a2 true))
theorem impl_TimeBetween.mono_l : ∀ k, (∀ y0 y1 y2 y3, LeO (impl_TimeBetween.j0 k y0 y1 y2 y3) (impl_TimeBetween.j0 (k + 1) y0 y1 y2 y3))
 | 0 => fun _ _ _ _ r h => by simp [impl_TimeBetween.j0] at h
 | k + 1 => by
  have ih0 := impl_TimeBetween.mono_l k
  ·intro y0 y1 y2 y3
   unfold impl_TimeBetween.j0
   repeat' first
   | (with_reducible exact ih0 _ _ _ _)
   | (with_reducible exact impl_AreTempos.mono _ _)
   | (with_reducible exact impl_timeOf.mono _ _ _)
   | (with_reducible exact LeO.refl _)
   | (with_reducible exact LeO.none _)
   | (with_reducible refine LeO.ite ?_ ?_)
   | (with_reducible refine LeO.bind ?_ (fun _ => ?_))
   | exact ih0 _ _ _ _
   | exact impl_AreTempos.mono _ _
   | exact impl_timeOf.mono _ _ _
   | exact LeO.none _
   | refine LeO.ite ?_ ?_
   | refine LeO.bind ?_ (fun _ => ?_)
theorem impl_TimeBetween.mono : ∀ a0 a1 a2 k, LeO (impl_TimeBetween.f k a0 a1 a2) (impl_TimeBetween.f (k + 1) a0 a1 a2) := by
 intro a0 a1 a2 k
 have ih0 := impl_TimeBetween.mono_l k
 unfold impl_TimeBetween.f
 repeat' first
   | (with_reducible exact ih0 _ _ _ _)
   | (with_reducible exact impl_AreTempos.mono _ _)
   | (with_reducible exact impl_timeOf.mono _ _ _)
   | (with_reducible exact LeO.refl _)
   | (with_reducible exact LeO.none _)
   | (with_reducible refine LeO.ite ?_ ?_)
   | (with_reducible refine LeO.bind ?_ (fun _ => ?_))
   | exact ih0 _ _ _ _
   | exact impl_AreTempos.mono _ _
   | exact impl_timeOf.mono _ _ _
   | exact LeO.none _
   | refine LeO.ite ?_ ?_
   | refine LeO.bind ?_ (fun _ => ?_)
set_option maxHeartbeats 8000000 in
set_option maxRecDepth 100000 in
theorem impl_TimeBetween.calls (k : Nat) (A0 : Option Addr) (c0 : Nat) (l0 : List (S48)) (a1 : Int) (a2 : Int) (r1 : Int) (r2 : Bool) (w : World) (hr0 : Kd.C k48 w A0 l0.length l0) (hc0 : l0.length ≤ c0) (h : impl_TimeBetween.f k l0 a1 a2 = some (r1, r2)) :
  Calls Try.prog 61 #[.slice A0 l0.length c0, .int .i64 a1, .int .i64 a2] w fun e w' => e = .returned (.tuple #[.int .i64 r1, .bool r2]) ∧ Below w.heap.size w w' := by
 have HR0 := M_ hr0
 have HC0 := M_ hc0
 clear hr0 hc0
 have HB := M_ (Below.refl w.heap.size w)
 have H : ((impl_AreTempos.f k l0).bind fun t348 => (if t348 = true then ((impl_isTempoStep.f a1).bind fun t349 => (if t349 = true then ((impl_isTempoStep.f a2).bind fun t350 => (if t350 = true then (impl_TimeBetween.j0 k l0 a1 a2 (decide (a1 > a2))) else (impl_TimeBetween.j0 k l0 a1 a2 true))) else (impl_TimeBetween.j0 k l0 a1 a2 true))) else (impl_TimeBetween.j0 k l0 a1 a2 true))) = some (r1, r2) := h
 clear h
 have HC4 := M_ H
 clear H
 go_enter Try.func61, Try.ntmps61
 go_upto_region 1 with (fail)
 go_cut [25] (fun v25 wc => ∃ (kq : Nat) (x25_3 : Bool), v25 = .bool x25_3 ∧ Aside0 (impl_TimeBetween.j0 kq l0 a1 a2 x25_3 = some (r1, r2)) ∧ Aside0 (kq ≤ k) ∧ Aside0 (Below w.heap.size w wc))
 case first =>
  have H := HC4.out
  clear HC4
  replace H := Option.bind_eq_some_iff.mp H
  obtain ⟨t348, A50, H⟩ := H
  replace H : (if t348 = true then ((impl_isTempoStep.f a1).bind fun t349 => (if t349 = true then ((impl_isTempoStep.f a2).bind fun t350 => (if t350 = true then (impl_TimeBetween.j0 k l0 a1 a2 (decide (a1 > a2))) else (impl_TimeBetween.j0 k l0 a1 a2 true))) else (impl_TimeBetween.j0 k l0 a1 a2 true))) else (impl_TimeBetween.j0 k l0 a1 a2 true)) = some (r1, r2) := H
  have A5 := M_ A50
  clear A50
  by_cases c6 : t348 = true
  ·subst c6
   have H1 : ((impl_isTempoStep.f a1).bind fun t349 => (if t349 = true then ((impl_isTempoStep.f a2).bind fun t350 => (if t350 = true then (impl_TimeBetween.j0 k l0 a1 a2 (decide (a1 > a2))) else (impl_TimeBetween.j0 k l0 a1 a2 true))) else (impl_TimeBetween.j0 k l0 a1 a2 true))) = some (r1, r2) := by rw [if_pos rfl] at H; exact H
   clear H
   have H := H1
   clear H1
   replace H := Option.bind_eq_some_iff.mp H
   obtain ⟨t349, A70, H⟩ := H
   replace H : (if t349 = true then ((impl_isTempoStep.f a2).bind fun t350 => (if t350 = true then (impl_TimeBetween.j0 k l0 a1 a2 (decide (a1 > a2))) else (impl_TimeBetween.j0 k l0 a1 a2 true))) else (impl_TimeBetween.j0 k l0 a1 a2 true)) = some (r1, r2) := H
   have A7 := M_ A70
   clear A70
   by_cases c8 : t349 = true
   ·subst c8
    have H1 : ((impl_isTempoStep.f a2).bind fun t350 => (if t350 = true then (impl_TimeBetween.j0 k l0 a1 a2 (decide (a1 > a2))) else (impl_TimeBetween.j0 k l0 a1 a2 true))) = some (r1, r2) := by rw [if_pos rfl] at H; exact H
    clear H
    have H := H1
    clear H1
    replace H := Option.bind_eq_some_iff.mp H
    obtain ⟨t350, A90, H⟩ := H
    replace H : (if t350 = true then (impl_TimeBetween.j0 k l0 a1 a2 (decide (a1 > a2))) else (impl_TimeBetween.j0 k l0 a1 a2 true)) = some (r1, r2) := H
    have A9 := M_ A90
    clear A90
    by_cases c10 : t350 = true
    ·subst c10
     have H1 : (impl_TimeBetween.j0 k l0 a1 a2 (decide (a1 > a2))) = some (r1, r2) := by rw [if_pos rfl] at H; exact H
     clear H
     have H := H1
     clear H1
     have H' := M_ H
     clear H
     go_wp2_with (first | ((with_reducible refine gate_callee (f := 66) rfl ?_); refine goesL_ (some 9) rfl rfl Try.func66 (by kernel_rfl) rfl #[.slice A0 l0.length c0] rfl (by (try simp only [List.map_toArray, List.map_cons, List.map_nil]); first | done | rfl | (simp only [List.length_drop, List.length_take]; rfl)) ?_; (with_reducible refine (impl_AreTempos.calls k _ _ l0 true _ ?side1 ?side2 A5.out).mono ?_); (case side1 => repeat (first | exact (Kd.C_below HR0.out HB.out) | (with_reducible refine Kd.C_alloc ?_ _) | (with_reducible refine Kd.C_drewN ?_ _) | (with_reducible refine Kd.C_drew ?_))); (case side2 => exact HC0.out); rintro e w11 ⟨rfl, hb⟩; refine ⟨_, rfl, ?_⟩; have n0_ := M_ (below_step (by repeat (first | (with_reducible first | exact HB.out | apply ba_ | apply bn_ | apply b1_) | exact HB.out)) hb); clear HB; have HB := n0_; clear n0_; (try clear hb); (try clear hb2); (try clear hk); (try clear hi)) | (go_at_call 112; (with_reducible refine (impl_isTempoStep.calls a1 true _ A7.out).mono ?_); rintro e w' ⟨rfl, ⟨nd, rfl⟩⟩) | (go_at_call 112; (with_reducible refine (impl_isTempoStep.calls a2 true _ A9.out).mono ?_); rintro e w' ⟨rfl, ⟨nd, rfl⟩⟩))
     go_meet
     case rel => exact ⟨_, (decide (a1 > a2)), (by first | rfl | (simp; done) | (simp [*]; done)), H', ⟨by first | omega | exact Nat.le_refl _⟩, ⟨by repeat (first | (with_reducible first | exact HB.out | apply ba_ | apply bn_ | apply b1_) | exact HB.out)⟩⟩
    ·replace c10 := Bool.eq_false_iff.mpr c10
     subst c10
     have H1 : (impl_TimeBetween.j0 k l0 a1 a2 true) = some (r1, r2) := by rw [if_neg (show ¬ (false = true) by decide)] at H; exact H
     clear H
     have H := H1
     clear H1
     have H' := M_ H
     clear H
     go_wp2_with (first | ((with_reducible refine gate_callee (f := 66) rfl ?_); refine goesL_ (some 9) rfl rfl Try.func66 (by kernel_rfl) rfl #[.slice A0 l0.length c0] rfl (by (try simp only [List.map_toArray, List.map_cons, List.map_nil]); first | done | rfl | (simp only [List.length_drop, List.length_take]; rfl)) ?_; (with_reducible refine (impl_AreTempos.calls k _ _ l0 true _ ?side1 ?side2 A5.out).mono ?_); (case side1 => repeat (first | exact (Kd.C_below HR0.out HB.out) | (with_reducible refine Kd.C_alloc ?_ _) | (with_reducible refine Kd.C_drewN ?_ _) | (with_reducible refine Kd.C_drew ?_))); (case side2 => exact HC0.out); rintro e w12 ⟨rfl, hb⟩; refine ⟨_, rfl, ?_⟩; have n0_ := M_ (below_step (by repeat (first | (with_reducible first | exact HB.out | apply ba_ | apply bn_ | apply b1_) | exact HB.out)) hb); clear HB; have HB := n0_; clear n0_; (try clear hb); (try clear hb2); (try clear hk); (try clear hi)) | (go_at_call 112; (with_reducible refine (impl_isTempoStep.calls a1 true _ A7.out).mono ?_); rintro e w' ⟨rfl, ⟨nd, rfl⟩⟩) | (go_at_call 112; (with_reducible refine (impl_isTempoStep.calls a2 false _ A9.out).mono ?_); rintro e w' ⟨rfl, ⟨nd, rfl⟩⟩))
     go_meet
     case rel => exact ⟨_, (true), (by first | rfl | (simp; done) | (simp [*]; done)), H', ⟨by first | omega | exact Nat.le_refl _⟩, ⟨by repeat (first | (with_reducible first | exact HB.out | apply ba_ | apply bn_ | apply b1_) | exact HB.out)⟩⟩
   ·replace c8 := Bool.eq_false_iff.mpr c8
    subst c8
    have H1 : (impl_TimeBetween.j0 k l0 a1 a2 true) = some (r1, r2) := by rw [if_neg (show ¬ (false = true) by decide)] at H; exact H
    clear H
    have H := H1
    clear H1
    have H' := M_ H
    clear H
    go_wp2_with (first | ((with_reducible refine gate_callee (f := 66) rfl ?_); refine goesL_ (some 9) rfl rfl Try.func66 (by kernel_rfl) rfl #[.slice A0 l0.length c0] rfl (by (try simp only [List.map_toArray, List.map_cons, List.map_nil]); first | done | rfl | (simp only [List.length_drop, List.length_take]; rfl)) ?_; (with_reducible refine (impl_AreTempos.calls k _ _ l0 true _ ?side1 ?side2 A5.out).mono ?_); (case side1 => repeat (first | exact (Kd.C_below HR0.out HB.out) | (with_reducible refine Kd.C_alloc ?_ _) | (with_reducible refine Kd.C_drewN ?_ _) | (with_reducible refine Kd.C_drew ?_))); (case side2 => exact HC0.out); rintro e w13 ⟨rfl, hb⟩; refine ⟨_, rfl, ?_⟩; have n0_ := M_ (below_step (by repeat (first | (with_reducible first | exact HB.out | apply ba_ | apply bn_ | apply b1_) | exact HB.out)) hb); clear HB; have HB := n0_; clear n0_; (try clear hb); (try clear hb2); (try clear hk); (try clear hi)) | (go_at_call 112; (with_reducible refine (impl_isTempoStep.calls a1 false _ A7.out).mono ?_); rintro e w' ⟨rfl, ⟨nd, rfl⟩⟩))
    go_meet
    case rel => exact ⟨_, (true), (by first | rfl | (simp; done) | (simp [*]; done)), H', ⟨by first | omega | exact Nat.le_refl _⟩, ⟨by repeat (first | (with_reducible first | exact HB.out | apply ba_ | apply bn_ | apply b1_) | exact HB.out)⟩⟩
  ·replace c6 := Bool.eq_false_iff.mpr c6
   subst c6
   have H1 : (impl_TimeBetween.j0 k l0 a1 a2 true) = some (r1, r2) := by rw [if_neg (show ¬ (false = true) by decide)] at H; exact H
   clear H
   have H := H1
   clear H1
   have H' := M_ H
   clear H
   go_wp2_with (first | ((with_reducible refine gate_callee (f := 66) rfl ?_); refine goesL_ (some 9) rfl rfl Try.func66 (by kernel_rfl) rfl #[.slice A0 l0.length c0] rfl (by (try simp only [List.map_toArray, List.map_cons, List.map_nil]); first | done | rfl | (simp only [List.length_drop, List.length_take]; rfl)) ?_; (with_reducible refine (impl_AreTempos.calls k _ _ l0 false _ ?side1 ?side2 A5.out).mono ?_); (case side1 => repeat (first | exact (Kd.C_below HR0.out HB.out) | (with_reducible refine Kd.C_alloc ?_ _) | (with_reducible refine Kd.C_drewN ?_ _) | (with_reducible refine Kd.C_drew ?_))); (case side2 => exact HC0.out); rintro e w14 ⟨rfl, hb⟩; refine ⟨_, rfl, ?_⟩; have n0_ := M_ (below_step (by repeat (first | (with_reducible first | exact HB.out | apply ba_ | apply bn_ | apply b1_) | exact HB.out)) hb); clear HB; have HB := n0_; clear n0_; (try clear hb); (try clear hb2); (try clear hk); (try clear hi)))
   go_meet
   case rel => exact ⟨_, (true), (by first | rfl | (simp; done) | (simp [*]; done)), H', ⟨by first | omega | exact Nat.le_refl _⟩, ⟨by repeat (first | (with_reducible first | exact HB.out | apply ba_ | apply bn_ | apply b1_) | exact HB.out)⟩⟩
 case rest =>
  clear HC4
  try clear c1
  try clear p2
  try clear c6
  try clear c8
  try clear c10
  obtain ⟨kq, x25_3, rfl, HA, HJ3, HB⟩ := hcut
  cases kq with
  | zero => exact absurd HA.out (by simp [impl_TimeBetween.j0])
  | succ kj3 =>
   have H := HA.out
   clear HA
   simp only [impl_TimeBetween.j0] at H
   by_cases c15 : x25_3 = true
   ·subst c15
    have H1 : (some (0, false)) = some (r1, r2) := by rw [if_pos rfl] at H; exact H
    clear H
    have H := H1
    clear H1
    simp only [Option.some.injEq, Prod.mk.injEq] at H
    obtain ⟨rfl, rfl⟩ := H
    go_wp2
    go_ret2
    exact ⟨by first | rfl | (simp [errW_none, errW_some] <;> rfl) | (simp [*, errW_none, errW_some] <;> rfl), by repeat (first | (with_reducible first | exact HB.out | apply ba_ | apply bn_ | apply b1_) | exact HB.out)⟩
   ·replace c15 := Bool.eq_false_iff.mpr c15
    subst c15
    have H1 : ((impl_timeOf.f kj3 l0 a2).bind fun t351 => ((impl_timeOf.f kj3 l0 a1).bind fun t352 => (some (wrap64 (t351 - t352), true)))) = some (r1, r2) := by rw [if_neg (show ¬ (false = true) by decide)] at H; exact H
    clear H
    have H := H1
    clear H1
    replace H := Option.bind_eq_some_iff.mp H
    obtain ⟨t351, A160, H⟩ := H
    replace H : ((impl_timeOf.f kj3 l0 a1).bind fun t352 => (some (wrap64 (t351 - t352), true))) = some (r1, r2) := H
    have A16 := M_ A160
    clear A160
    replace H := Option.bind_eq_some_iff.mp H
    obtain ⟨t352, A170, H⟩ := H
    replace H : (some (wrap64 (t351 - t352), true)) = some (r1, r2) := H
    have A17 := M_ A170
    clear A170
    simp only [Option.some.injEq, Prod.mk.injEq] at H
    obtain ⟨rfl, rfl⟩ := H
    go_wp2_with (first | ((with_reducible refine gate_callee (f := 113) rfl ?_); refine goesL_ (some 28) rfl rfl Try.func113 (by kernel_rfl) rfl #[.slice A0 l0.length c0, .int .i64 a2] rfl (by (try simp only [List.map_toArray, List.map_cons, List.map_nil]); first | done | rfl | (simp only [List.length_drop, List.length_take]; rfl)) ?_; (with_reducible refine (impl_timeOf.calls kj3 _ _ l0 a2 t351 _ ?side1 ?side2 A16.out).mono ?_); (case side1 => repeat (first | exact (Kd.C_below HR0.out HB.out) | (with_reducible refine Kd.C_alloc ?_ _) | (with_reducible refine Kd.C_drewN ?_ _) | (with_reducible refine Kd.C_drew ?_))); (case side2 => exact HC0.out); rintro e w18 ⟨rfl, hb⟩; refine ⟨_, rfl, ?_⟩; have n0_ := M_ (below_step (by repeat (first | (with_reducible first | exact HB.out | apply ba_ | apply bn_ | apply b1_) | exact HB.out)) hb); clear HB; have HB := n0_; clear n0_; (try clear hb); (try clear hb2); (try clear hk); (try clear hi)) | ((with_reducible refine gate_callee (f := 113) rfl ?_); refine goesL_ (some 31) rfl rfl Try.func113 (by kernel_rfl) rfl #[.slice A0 l0.length c0, .int .i64 a1] rfl (by (try simp only [List.map_toArray, List.map_cons, List.map_nil]); first | done | rfl | (simp only [List.length_drop, List.length_take]; rfl)) ?_; (with_reducible refine (impl_timeOf.calls kj3 _ _ l0 a1 t352 _ ?side1 ?side2 A17.out).mono ?_); (case side1 => repeat (first | exact (Kd.C_below HR0.out HB.out) | (with_reducible refine Kd.C_alloc ?_ _) | (with_reducible refine Kd.C_drewN ?_ _) | (with_reducible refine Kd.C_drew ?_))); (case side2 => exact HC0.out); rintro e w19 ⟨rfl, hb⟩; refine ⟨_, rfl, ?_⟩; have n0_ := M_ (below_step (by repeat (first | (with_reducible first | exact HB.out | apply ba_ | apply bn_ | apply b1_) | exact HB.out)) hb); clear HB; have HB := n0_; clear n0_; (try clear hb); (try clear hb2); (try clear hk); (try clear hi)))
    go_ret2
    exact ⟨by first | rfl | (simp [errW_none, errW_some] <;> rfl) | (simp [*, errW_none, errW_some] <;> rfl), by repeat (first | (with_reducible first | exact HB.out | apply ba_ | apply bn_ | apply b1_) | exact HB.out)⟩

def spec_teTwo.f (k : Nat) (l0 : List (S48)) (a1 : Int) (a2 : Int) : Option (Bool) := (spec_teGood.f k l0).bind fun t353 => (if t353 = true then ((spec_teStep.f a1).bind fun t354 => (if t354 = true then ((spec_teStep.f a2).bind fun t355 => (if t355 = true then (some (decide (a1 ≤ a2))) else (some false))) else (some false))) else (some false))
theorem spec_teTwo.mono : ∀ a0 a1 a2 k, LeO (spec_teTwo.f k a0 a1 a2) (spec_teTwo.f (k + 1) a0 a1 a2) := by
 intro a0 a1 a2 k
 unfold spec_teTwo.f
 repeat' first
   | (with_reducible exact spec_teGood.mono _ _)
   | (with_reducible exact LeO.refl _)
   | (with_reducible exact LeO.none _)
   | (with_reducible refine LeO.ite ?_ ?_)
   | (with_reducible refine LeO.bind ?_ (fun _ => ?_))
   | exact spec_teGood.mono _ _
   | exact LeO.none _
   | refine LeO.ite ?_ ?_
   | refine LeO.bind ?_ (fun _ => ?_)
set_option maxHeartbeats 8000000 in
set_option maxRecDepth 100000 in
theorem spec_teTwo.calls (k : Nat) (A0 : Option Addr) (c0 : Nat) (l0 : List (S48)) (a1 : Int) (a2 : Int) (r : Bool) (w : World) (hr0 : Kd.C k48 w A0 l0.length l0) (hc0 : l0.length ≤ c0) (h : spec_teTwo.f k l0 a1 a2 = some r) :
  Calls Try.prog 121 #[.slice A0 l0.length c0, .int .i64 a1, .int .i64 a2] w fun e w' => e = .returned (.bool r) ∧ Below w.heap.size w w' := by
 have HR0 := M_ hr0
 have HC0 := M_ hc0
 clear hr0 hc0
 have HB := M_ (Below.refl w.heap.size w)
 have H : ((spec_teGood.f k l0).bind fun t353 => (if t353 = true then ((spec_teStep.f a1).bind fun t354 => (if t354 = true then ((spec_teStep.f a2).bind fun t355 => (if t355 = true then (some (decide (a1 ≤ a2))) else (some false))) else (some false))) else (some false))) = some r := h
 clear h
 replace H := Option.bind_eq_some_iff.mp H
 obtain ⟨t353, A40, H⟩ := H
 replace H : (if t353 = true then ((spec_teStep.f a1).bind fun t354 => (if t354 = true then ((spec_teStep.f a2).bind fun t355 => (if t355 = true then (some (decide (a1 ≤ a2))) else (some false))) else (some false))) else (some false)) = some r := H
 have A4 := M_ A40
 clear A40
 by_cases c5 : t353 = true
 ·subst c5
  have H1 : ((spec_teStep.f a1).bind fun t354 => (if t354 = true then ((spec_teStep.f a2).bind fun t355 => (if t355 = true then (some (decide (a1 ≤ a2))) else (some false))) else (some false))) = some r := by rw [if_pos rfl] at H; exact H
  clear H
  have H := H1
  clear H1
  replace H := Option.bind_eq_some_iff.mp H
  obtain ⟨t354, A60, H⟩ := H
  replace H : (if t354 = true then ((spec_teStep.f a2).bind fun t355 => (if t355 = true then (some (decide (a1 ≤ a2))) else (some false))) else (some false)) = some r := H
  have A6 := M_ A60
  clear A60
  by_cases c7 : t354 = true
  ·subst c7
   have H1 : ((spec_teStep.f a2).bind fun t355 => (if t355 = true then (some (decide (a1 ≤ a2))) else (some false))) = some r := by rw [if_pos rfl] at H; exact H
   clear H
   have H := H1
   clear H1
   replace H := Option.bind_eq_some_iff.mp H
   obtain ⟨t355, A80, H⟩ := H
   replace H : (if t355 = true then (some (decide (a1 ≤ a2))) else (some false)) = some r := H
   have A8 := M_ A80
   clear A80
   by_cases c9 : t355 = true
   ·subst c9
    have H1 : (some (decide (a1 ≤ a2))) = some r := by rw [if_pos rfl] at H; exact H
    clear H
    have H := H1
    clear H1
    obtain rfl := Option.some.inj H
    go_enter Try.func121, Try.ntmps121
    go_wp2_with (first | ((with_reducible refine gate_callee (f := 84) rfl ?_); refine goesL_ (some 8) rfl rfl Try.func84 (by kernel_rfl) rfl #[.slice A0 l0.length c0] rfl (by (try simp only [List.map_toArray, List.map_cons, List.map_nil]); first | done | rfl | (simp only [List.length_drop, List.length_take]; rfl)) ?_; (with_reducible refine (spec_teGood.calls k _ _ l0 true _ ?side1 ?side2 A4.out).mono ?_); (case side1 => repeat (first | exact HR0.out | (with_reducible refine Kd.C_alloc ?_ _) | (with_reducible refine Kd.C_drewN ?_ _) | (with_reducible refine Kd.C_drew ?_))); (case side2 => exact HC0.out); rintro e w10 ⟨rfl, hb⟩; refine ⟨_, rfl, ?_⟩; have n0_ := M_ (below_step (by repeat (first | (with_reducible first | exact HB.out | apply ba_ | apply bn_ | apply b1_) | exact HB.out)) hb); clear HB; have HB := n0_; clear n0_; (try clear hb); (try clear hb2); (try clear hk); (try clear hi)) | (go_at_call 114; (with_reducible refine (spec_teStep.calls a1 true _ A6.out).mono ?_); rintro e w' ⟨rfl, ⟨nd, rfl⟩⟩) | (go_at_call 114; (with_reducible refine (spec_teStep.calls a2 true _ A8.out).mono ?_); rintro e w' ⟨rfl, ⟨nd, rfl⟩⟩))
    go_ret
    exact ⟨by first | rfl | (simp [errW_none, errW_some] <;> rfl) | (simp [*, errW_none, errW_some] <;> rfl), by repeat (first | (with_reducible first | exact HB.out | apply ba_ | apply bn_ | apply b1_) | exact HB.out)⟩
   ·replace c9 := Bool.eq_false_iff.mpr c9
    subst c9
    have H1 : (some false) = some r := by rw [if_neg (show ¬ (false = true) by decide)] at H; exact H
    clear H
    have H := H1
    clear H1
    obtain rfl := Option.some.inj H
    go_enter Try.func121, Try.ntmps121
    go_wp2_with (first | ((with_reducible refine gate_callee (f := 84) rfl ?_); refine goesL_ (some 8) rfl rfl Try.func84 (by kernel_rfl) rfl #[.slice A0 l0.length c0] rfl (by (try simp only [List.map_toArray, List.map_cons, List.map_nil]); first | done | rfl | (simp only [List.length_drop, List.length_take]; rfl)) ?_; (with_reducible refine (spec_teGood.calls k _ _ l0 true _ ?side1 ?side2 A4.out).mono ?_); (case side1 => repeat (first | exact HR0.out | (with_reducible refine Kd.C_alloc ?_ _) | (with_reducible refine Kd.C_drewN ?_ _) | (with_reducible refine Kd.C_drew ?_))); (case side2 => exact HC0.out); rintro e w11 ⟨rfl, hb⟩; refine ⟨_, rfl, ?_⟩; have n0_ := M_ (below_step (by repeat (first | (with_reducible first | exact HB.out | apply ba_ | apply bn_ | apply b1_) | exact HB.out)) hb); clear HB; have HB := n0_; clear n0_; (try clear hb); (try clear hb2); (try clear hk); (try clear hi)) | (go_at_call 114; (with_reducible refine (spec_teStep.calls a1 true _ A6.out).mono ?_); rintro e w' ⟨rfl, ⟨nd, rfl⟩⟩) | (go_at_call 114; (with_reducible refine (spec_teStep.calls a2 false _ A8.out).mono ?_); rintro e w' ⟨rfl, ⟨nd, rfl⟩⟩))
    go_ret
    exact ⟨by first | rfl | (simp [errW_none, errW_some] <;> rfl) | (simp [*, errW_none, errW_some] <;> rfl), by repeat (first | (with_reducible first | exact HB.out | apply ba_ | apply bn_ | apply b1_) | exact HB.out)⟩
  ·replace c7 := Bool.eq_false_iff.mpr c7
   subst c7
   have H1 : (some false) = some r := by rw [if_neg (show ¬ (false = true) by decide)] at H; exact H
   clear H
   have H := H1
   clear H1
   obtain rfl := Option.some.inj H
   go_enter Try.func121, Try.ntmps121
   go_wp2_with (first | ((with_reducible refine gate_callee (f := 84) rfl ?_); refine goesL_ (some 8) rfl rfl Try.func84 (by kernel_rfl) rfl #[.slice A0 l0.length c0] rfl (by (try simp only [List.map_toArray, List.map_cons, List.map_nil]); first | done | rfl | (simp only [List.length_drop, List.length_take]; rfl)) ?_; (with_reducible refine (spec_teGood.calls k _ _ l0 true _ ?side1 ?side2 A4.out).mono ?_); (case side1 => repeat (first | exact HR0.out | (with_reducible refine Kd.C_alloc ?_ _) | (with_reducible refine Kd.C_drewN ?_ _) | (with_reducible refine Kd.C_drew ?_))); (case side2 => exact HC0.out); rintro e w12 ⟨rfl, hb⟩; refine ⟨_, rfl, ?_⟩; have n0_ := M_ (below_step (by repeat (first | (with_reducible first | exact HB.out | apply ba_ | apply bn_ | apply b1_) | exact HB.out)) hb); clear HB; have HB := n0_; clear n0_; (try clear hb); (try clear hb2); (try clear hk); (try clear hi)) | (go_at_call 114; (with_reducible refine (spec_teStep.calls a1 false _ A6.out).mono ?_); rintro e w' ⟨rfl, ⟨nd, rfl⟩⟩))
   go_ret
   exact ⟨by first | rfl | (simp [errW_none, errW_some] <;> rfl) | (simp [*, errW_none, errW_some] <;> rfl), by repeat (first | (with_reducible first | exact HB.out | apply ba_ | apply bn_ | apply b1_) | exact HB.out)⟩
 ·replace c5 := Bool.eq_false_iff.mpr c5
  subst c5
  have H1 : (some false) = some r := by rw [if_neg (show ¬ (false = true) by decide)] at H; exact H
  clear H
  have H := H1
  clear H1
  obtain rfl := Option.some.inj H
  go_enter Try.func121, Try.ntmps121
  go_wp2_with (first | ((with_reducible refine gate_callee (f := 84) rfl ?_); refine goesL_ (some 8) rfl rfl Try.func84 (by kernel_rfl) rfl #[.slice A0 l0.length c0] rfl (by (try simp only [List.map_toArray, List.map_cons, List.map_nil]); first | done | rfl | (simp only [List.length_drop, List.length_take]; rfl)) ?_; (with_reducible refine (spec_teGood.calls k _ _ l0 false _ ?side1 ?side2 A4.out).mono ?_); (case side1 => repeat (first | exact HR0.out | (with_reducible refine Kd.C_alloc ?_ _) | (with_reducible refine Kd.C_drewN ?_ _) | (with_reducible refine Kd.C_drew ?_))); (case side2 => exact HC0.out); rintro e w13 ⟨rfl, hb⟩; refine ⟨_, rfl, ?_⟩; have n0_ := M_ (below_step (by repeat (first | (with_reducible first | exact HB.out | apply ba_ | apply bn_ | apply b1_) | exact HB.out)) hb); clear HB; have HB := n0_; clear n0_; (try clear hb); (try clear hb2); (try clear hk); (try clear hi)))
  go_ret
  exact ⟨by first | rfl | (simp [errW_none, errW_some] <;> rfl) | (simp [*, errW_none, errW_some] <;> rfl), by repeat (first | (with_reducible first | exact HB.out | apply ba_ | apply bn_ | apply b1_) | exact HB.out)⟩

def spec_TimeBetween.f (k : Nat) (l0 : List (S48)) (a1 : Int) (a2 : Int) : Option (Int × Bool) := (spec_teTwo.f k l0 a1 a2).bind fun t356 => (if t356 = true then ((spec_teTime.f k l0 a2).bind fun t357 => ((spec_teTime.f k l0 a1).bind fun t358 => (some (wrap64 (t357 - t358), true)))) else (some (0, false)))
theorem spec_TimeBetween.mono : ∀ a0 a1 a2 k, LeO (spec_TimeBetween.f k a0 a1 a2) (spec_TimeBetween.f (k + 1) a0 a1 a2) := by
 intro a0 a1 a2 k
 unfold spec_TimeBetween.f
 repeat' first
   | (with_reducible exact spec_teTime.mono _ _ _)
   | (with_reducible exact spec_teTwo.mono _ _ _ _)
   | (with_reducible exact LeO.refl _)
   | (with_reducible exact LeO.none _)
   | (with_reducible refine LeO.ite ?_ ?_)
   | (with_reducible refine LeO.bind ?_ (fun _ => ?_))
   | exact spec_teTime.mono _ _ _
   | exact spec_teTwo.mono _ _ _ _
   | exact LeO.none _
   | refine LeO.ite ?_ ?_
   | refine LeO.bind ?_ (fun _ => ?_)
set_option maxHeartbeats 8000000 in
set_option maxRecDepth 100000 in
theorem spec_TimeBetween.calls (k : Nat) (A0 : Option Addr) (c0 : Nat) (l0 : List (S48)) (a1 : Int) (a2 : Int) (r1 : Int) (r2 : Bool) (w : World) (hr0 : Kd.C k48 w A0 l0.length l0) (hc0 : l0.length ≤ c0) (h : spec_TimeBetween.f k l0 a1 a2 = some (r1, r2)) :
  Calls Try.prog 62 #[.slice A0 l0.length c0, .int .i64 a1, .int .i64 a2] w fun e w' => e = .returned (.tuple #[.int .i64 r1, .bool r2]) ∧ Below w.heap.size w w' := by
 have HR0 := M_ hr0
 have HC0 := M_ hc0
 clear hr0 hc0
 have HB := M_ (Below.refl w.heap.size w)
 have H : ((spec_teTwo.f k l0 a1 a2).bind fun t356 => (if t356 = true then ((spec_teTime.f k l0 a2).bind fun t357 => ((spec_teTime.f k l0 a1).bind fun t358 => (some (wrap64 (t357 - t358), true)))) else (some (0, false)))) = some (r1, r2) := h
 clear h
 replace H := Option.bind_eq_some_iff.mp H
 obtain ⟨t356, A40, H⟩ := H
 replace H : (if t356 = true then ((spec_teTime.f k l0 a2).bind fun t357 => ((spec_teTime.f k l0 a1).bind fun t358 => (some (wrap64 (t357 - t358), true)))) else (some (0, false))) = some (r1, r2) := H
 have A4 := M_ A40
 clear A40
 by_cases c5 : t356 = true
 ·subst c5
  have H1 : ((spec_teTime.f k l0 a2).bind fun t357 => ((spec_teTime.f k l0 a1).bind fun t358 => (some (wrap64 (t357 - t358), true)))) = some (r1, r2) := by rw [if_pos rfl] at H; exact H
  clear H
  have H := H1
  clear H1
  replace H := Option.bind_eq_some_iff.mp H
  obtain ⟨t357, A60, H⟩ := H
  replace H : ((spec_teTime.f k l0 a1).bind fun t358 => (some (wrap64 (t357 - t358), true))) = some (r1, r2) := H
  have A6 := M_ A60
  clear A60
  replace H := Option.bind_eq_some_iff.mp H
  obtain ⟨t358, A70, H⟩ := H
  replace H : (some (wrap64 (t357 - t358), true)) = some (r1, r2) := H
  have A7 := M_ A70
  clear A70
  simp only [Option.some.injEq, Prod.mk.injEq] at H
  obtain ⟨rfl, rfl⟩ := H
  go_enter Try.func62, Try.ntmps62
  go_wp2_with (first | ((with_reducible refine gate_callee (f := 121) rfl ?_); refine goesL_ (some 11) rfl rfl Try.func121 (by kernel_rfl) rfl #[.slice A0 l0.length c0, .int .i64 a1, .int .i64 a2] rfl (by (try simp only [List.map_toArray, List.map_cons, List.map_nil]); first | done | rfl | (simp only [List.length_drop, List.length_take]; rfl)) ?_; (with_reducible refine (spec_teTwo.calls k _ _ l0 a1 a2 true _ ?side1 ?side2 A4.out).mono ?_); (case side1 => repeat (first | exact HR0.out | (with_reducible refine Kd.C_alloc ?_ _) | (with_reducible refine Kd.C_drewN ?_ _) | (with_reducible refine Kd.C_drew ?_))); (case side2 => exact HC0.out); rintro e w8 ⟨rfl, hb⟩; refine ⟨_, rfl, ?_⟩; have n0_ := M_ (below_step (by repeat (first | (with_reducible first | exact HB.out | apply ba_ | apply bn_ | apply b1_) | exact HB.out)) hb); clear HB; have HB := n0_; clear n0_; (try clear hb); (try clear hb2); (try clear hk); (try clear hi)) | ((with_reducible refine gate_callee (f := 115) rfl ?_); refine goesL_ (some 15) rfl rfl Try.func115 (by kernel_rfl) rfl #[.slice A0 l0.length c0, .int .i64 a2] rfl (by (try simp only [List.map_toArray, List.map_cons, List.map_nil]); first | done | rfl | (simp only [List.length_drop, List.length_take]; rfl)) ?_; (with_reducible refine (spec_teTime.calls k _ _ l0 a2 t357 _ ?side1 ?side2 A6.out).mono ?_); (case side1 => repeat (first | exact (Kd.C_below HR0.out HB.out) | (with_reducible refine Kd.C_alloc ?_ _) | (with_reducible refine Kd.C_drewN ?_ _) | (with_reducible refine Kd.C_drew ?_))); (case side2 => exact HC0.out); rintro e w9 ⟨rfl, hb⟩; refine ⟨_, rfl, ?_⟩; have n0_ := M_ (below_step (by repeat (first | (with_reducible first | exact HB.out | apply ba_ | apply bn_ | apply b1_) | exact HB.out)) hb); clear HB; have HB := n0_; clear n0_; (try clear hb); (try clear hb2); (try clear hk); (try clear hi)) | ((with_reducible refine gate_callee (f := 115) rfl ?_); refine goesL_ (some 18) rfl rfl Try.func115 (by kernel_rfl) rfl #[.slice A0 l0.length c0, .int .i64 a1] rfl (by (try simp only [List.map_toArray, List.map_cons, List.map_nil]); first | done | rfl | (simp only [List.length_drop, List.length_take]; rfl)) ?_; (with_reducible refine (spec_teTime.calls k _ _ l0 a1 t358 _ ?side1 ?side2 A7.out).mono ?_); (case side1 => repeat (first | exact (Kd.C_below HR0.out HB.out) | (with_reducible refine Kd.C_alloc ?_ _) | (with_reducible refine Kd.C_drewN ?_ _) | (with_reducible refine Kd.C_drew ?_))); (case side2 => exact HC0.out); rintro e w10 ⟨rfl, hb⟩; refine ⟨_, rfl, ?_⟩; have n0_ := M_ (below_step (by repeat (first | (with_reducible first | exact HB.out | apply ba_ | apply bn_ | apply b1_) | exact HB.out)) hb); clear HB; have HB := n0_; clear n0_; (try clear hb); (try clear hb2); (try clear hk); (try clear hi)))
  go_ret2
  exact ⟨by first | rfl | (simp [errW_none, errW_some] <;> rfl) | (simp [*, errW_none, errW_some] <;> rfl), by repeat (first | (with_reducible first | exact HB.out | apply ba_ | apply bn_ | apply b1_) | exact HB.out)⟩
 ·replace c5 := Bool.eq_false_iff.mpr c5
  subst c5
  have H1 : (some (0, false)) = some (r1, r2) := by rw [if_neg (show ¬ (false = true) by decide)] at H; exact H
  clear H
  have H := H1
  clear H1
  simp only [Option.some.injEq, Prod.mk.injEq] at H
  obtain ⟨rfl, rfl⟩ := H
  go_enter Try.func62, Try.ntmps62
  go_wp2_with (first | ((with_reducible refine gate_callee (f := 121) rfl ?_); refine goesL_ (some 11) rfl rfl Try.func121 (by kernel_rfl) rfl #[.slice A0 l0.length c0, .int .i64 a1, .int .i64 a2] rfl (by (try simp only [List.map_toArray, List.map_cons, List.map_nil]); first | done | rfl | (simp only [List.length_drop, List.length_take]; rfl)) ?_; (with_reducible refine (spec_teTwo.calls k _ _ l0 a1 a2 false _ ?side1 ?side2 A4.out).mono ?_); (case side1 => repeat (first | exact HR0.out | (with_reducible refine Kd.C_alloc ?_ _) | (with_reducible refine Kd.C_drewN ?_ _) | (with_reducible refine Kd.C_drew ?_))); (case side2 => exact HC0.out); rintro e w11 ⟨rfl, hb⟩; refine ⟨_, rfl, ?_⟩; have n0_ := M_ (below_step (by repeat (first | (with_reducible first | exact HB.out | apply ba_ | apply bn_ | apply b1_) | exact HB.out)) hb); clear HB; have HB := n0_; clear n0_; (try clear hb); (try clear hb2); (try clear hk); (try clear hi)))
  go_ret2
  exact ⟨by first | rfl | (simp [errW_none, errW_some] <;> rfl) | (simp [*, errW_none, errW_some] <;> rfl), by repeat (first | (with_reducible first | exact HB.out | apply ba_ | apply bn_ | apply b1_) | exact HB.out)⟩

mutual
def spec_DrawAddTempo.j0 : Nat → List (S48) → Int → Bool → List Int → Int → Int → Option ((List (S48)) × Int × Int)
 | 0, _, _, _, _, _, _ => none
 | k + 1, x5, x6, x20, x364000, x364001, x364002 => if x20 = true then ((spec_l1Cur_pick.f x364000 x364001 x364002 (x5.length : Int)).bind fun bt375 => (if 0 ≤ bt375.1 then (if bt375.1 < (x5.length : Int) then (spec_DrawAddTempo.j1 k x5 ((rd_T48 x5 bt375.1).f0) x364000 bt375.2.1 bt375.2.2) else (none)) else (none))) else (spec_DrawAddTempo.j1 k x5 x6 x364000 x364001 x364002)
def spec_DrawAddTempo.j1 : Nat → List (S48) → Int → List Int → Int → Int → Option ((List (S48)) × Int × Int)
 | 0, _, _, _, _, _ => none
 | k + 1, x5, x6, x364000, x364001, x364002 => (spec_l1Cur_lasts.f x364000 x364001 x364002).bind fun bt379 => ((spec_l1Cur_lasts.f x364000 bt379.2.1 bt379.2.2).bind fun bt382 => ((spec_l1Cur_among.f x364000 bt382.2.1 bt382.2.2 (([999, 1000001] : List Int))).bind fun bt388 => ((spec_l1Cur_among.f x364000 bt388.2.1 bt388.2.2 (([bt379.1, bt382.1, bt388.1] : List Int))).bind fun bt394 => (some (x5, x6, bt394.1)))))
end
def spec_DrawAddTempo.f (k : Nat) (l0 : List Int) : Option ((List (S48)) × Int × Int) := (newCur.f l0).bind fun bt360 => ((spec_l1Cur_anyTempos.f k bt360.1 bt360.2.1 bt360.2.2).bind fun bt364 => ((spec_l1Cur_pieceStep.f bt360.1 bt364.2.1 bt364.2.2).bind fun bt369 => (if (bt364.1.length : Int) > 0 then ((spec_l1Cur_one.f bt360.1 bt369.2.1 bt369.2.2 4).bind fun bt372 => (spec_DrawAddTempo.j0 k bt364.1 bt369.1 bt372.1 bt360.1 bt372.2.1 bt372.2.2)) else (spec_DrawAddTempo.j0 k bt364.1 bt369.1 false bt360.1 bt369.2.1 bt369.2.2))))
theorem spec_DrawAddTempo.mono_l : ∀ k, (∀ y0 y1 y2 y3 y4 y5, LeO (spec_DrawAddTempo.j0 k y0 y1 y2 y3 y4 y5) (spec_DrawAddTempo.j0 (k + 1) y0 y1 y2 y3 y4 y5)) ∧ (∀ y0 y1 y2 y3 y4, LeO (spec_DrawAddTempo.j1 k y0 y1 y2 y3 y4) (spec_DrawAddTempo.j1 (k + 1) y0 y1 y2 y3 y4))
 | 0 => ⟨fun _ _ _ _ _ _ r h => by simp [spec_DrawAddTempo.j0] at h, fun _ _ _ _ _ r h => by simp [spec_DrawAddTempo.j1] at h⟩
 | k + 1 => by
  obtain ⟨ih0, ih1⟩ := spec_DrawAddTempo.mono_l k
  refine ⟨?_, ?_⟩
  ·intro y0 y1 y2 y3 y4 y5
   unfold spec_DrawAddTempo.j0
   repeat' first
   | (with_reducible exact ih0 _ _ _ _ _ _)
   | (with_reducible exact ih1 _ _ _ _ _)
   | (with_reducible exact spec_l1Cur_anyTempos.mono _ _ _ _)
   | (with_reducible exact LeO.refl _)
   | (with_reducible exact LeO.none _)
   | (with_reducible refine LeO.ite ?_ ?_)
   | (with_reducible refine LeO.bind ?_ (fun _ => ?_))
   | exact ih0 _ _ _ _ _ _
   | exact ih1 _ _ _ _ _
   | exact spec_l1Cur_anyTempos.mono _ _ _ _
   | exact LeO.none _
   | refine LeO.ite ?_ ?_
   | refine LeO.bind ?_ (fun _ => ?_)
  ·intro y0 y1 y2 y3 y4
   unfold spec_DrawAddTempo.j1
   repeat' first
   | (with_reducible exact ih0 _ _ _ _ _ _)
   | (with_reducible exact ih1 _ _ _ _ _)
   | (with_reducible exact spec_l1Cur_anyTempos.mono _ _ _ _)
   | (with_reducible exact LeO.refl _)
   | (with_reducible exact LeO.none _)
   | (with_reducible refine LeO.ite ?_ ?_)
   | (with_reducible refine LeO.bind ?_ (fun _ => ?_))
   | exact ih0 _ _ _ _ _ _
   | exact ih1 _ _ _ _ _
   | exact spec_l1Cur_anyTempos.mono _ _ _ _
   | exact LeO.none _
   | refine LeO.ite ?_ ?_
   | refine LeO.bind ?_ (fun _ => ?_)
theorem spec_DrawAddTempo.mono : ∀ a0 k, LeO (spec_DrawAddTempo.f k a0) (spec_DrawAddTempo.f (k + 1) a0) := by
 intro a0 k
 obtain ⟨ih0, ih1⟩ := spec_DrawAddTempo.mono_l k
 unfold spec_DrawAddTempo.f
 repeat' first
   | (with_reducible exact ih0 _ _ _ _ _ _)
   | (with_reducible exact ih1 _ _ _ _ _)
   | (with_reducible exact spec_l1Cur_anyTempos.mono _ _ _ _)
   | (with_reducible exact LeO.refl _)
   | (with_reducible exact LeO.none _)
   | (with_reducible refine LeO.ite ?_ ?_)
   | (with_reducible refine LeO.bind ?_ (fun _ => ?_))
   | exact ih0 _ _ _ _ _ _
   | exact ih1 _ _ _ _ _
   | exact spec_l1Cur_anyTempos.mono _ _ _ _
   | exact LeO.none _
   | refine LeO.ite ?_ ?_
   | refine LeO.bind ?_ (fun _ => ?_)
set_option maxHeartbeats 8000000 in
set_option maxRecDepth 100000 in
theorem spec_DrawAddTempo.calls (k : Nat) (A0 : Option Addr) (c0 : Nat) (l0 : List Int) (r1 : List (S48)) (r2 : Int) (r3 : Int) (w : World) (hr0 : Kd.C (Kd.int .u8) w A0 l0.length l0) (hc0 : l0.length ≤ c0) (h : spec_DrawAddTempo.f k l0 = some (r1, r2, r3)) :
  Calls Try.prog 63 #[.slice A0 l0.length c0] w fun e w' => ∃ v0_ : Value, e = .returned (.tuple #[v0_, .agg #[.int .i64 r2, .int .i64 r3]]) ∧ Kd.R k48 48 w' w.heap.size (fun _ => True) v0_ r1 ∧ Below w.heap.size w w' := by
 have hu48 := Try.underlying48
 have HR0 := M_ hr0
 have HC0 := M_ hc0
 clear hr0 hc0
 have HB := M_ (Below.refl w.heap.size w)
 have H : ((newCur.f l0).bind fun bt360 => ((spec_l1Cur_anyTempos.f k bt360.1 bt360.2.1 bt360.2.2).bind fun bt364 => ((spec_l1Cur_pieceStep.f bt360.1 bt364.2.1 bt364.2.2).bind fun bt369 => (if (bt364.1.length : Int) > 0 then ((spec_l1Cur_one.f bt360.1 bt369.2.1 bt369.2.2 4).bind fun bt372 => (spec_DrawAddTempo.j0 k bt364.1 bt369.1 bt372.1 bt360.1 bt372.2.1 bt372.2.2)) else (spec_DrawAddTempo.j0 k bt364.1 bt369.1 false bt360.1 bt369.2.1 bt369.2.2))))) = some (r1, r2, r3) := h
 clear h
 replace H := Option.bind_eq_some_iff.mp H
 obtain ⟨⟨t360, t361, t362⟩, A20, H⟩ := H
 replace H : ((spec_l1Cur_anyTempos.f k t360 t361 t362).bind fun bt364 => ((spec_l1Cur_pieceStep.f t360 bt364.2.1 bt364.2.2).bind fun bt369 => (if (bt364.1.length : Int) > 0 then ((spec_l1Cur_one.f t360 bt369.2.1 bt369.2.2 4).bind fun bt372 => (spec_DrawAddTempo.j0 k bt364.1 bt369.1 bt372.1 t360 bt372.2.1 bt372.2.2)) else (spec_DrawAddTempo.j0 k bt364.1 bt369.1 false t360 bt369.2.1 bt369.2.2)))) = some (r1, r2, r3) := H
 have A2 := M_ A20
 clear A20
 replace H := Option.bind_eq_some_iff.mp H
 obtain ⟨⟨t364, t367, t368⟩, A30, H⟩ := H
 replace H : ((spec_l1Cur_pieceStep.f t360 t367 t368).bind fun bt369 => (if (t364.length : Int) > 0 then ((spec_l1Cur_one.f t360 bt369.2.1 bt369.2.2 4).bind fun bt372 => (spec_DrawAddTempo.j0 k t364 bt369.1 bt372.1 t360 bt372.2.1 bt372.2.2)) else (spec_DrawAddTempo.j0 k t364 bt369.1 false t360 bt369.2.1 bt369.2.2))) = some (r1, r2, r3) := H
 have A3 := M_ A30
 clear A30
 replace H := Option.bind_eq_some_iff.mp H
 obtain ⟨⟨t369, t370, t371⟩, A40, H⟩ := H
 replace H : (if (t364.length : Int) > 0 then ((spec_l1Cur_one.f t360 t370 t371 4).bind fun bt372 => (spec_DrawAddTempo.j0 k t364 t369 bt372.1 t360 bt372.2.1 bt372.2.2)) else (spec_DrawAddTempo.j0 k t364 t369 false t360 t370 t371)) = some (r1, r2, r3) := H
 have A4 := M_ A40
 clear A40
 have HC5 := M_ H
 clear H
 go_enter Try.func63, Try.ntmps63
 go_upto_region 4 with (first | ((with_reducible refine gate_dst (N := 3) rfl ?_); refine box_event ?hg (N := 3) ?hd (cs := #[.int .i64 0, .int .i64 0]) (t := 48) ?hr ?_; (case hd => rfl); (case hg => rfl); (case hr => first | (go_simp; done) | (go_simp; rfl)); intro gb359 hg w6 hbox hb; have n0_ := M_ (below_step (by repeat (first | (with_reducible first | exact HB.out | apply ba_ | apply bn_ | apply b1_) | exact HB.out)) hb); have n1_ := M_ (hbox); have n2_ := M_ ((by rw [hg]; exact (below_size (by repeat (first | (with_reducible first | exact HB.out | apply ba_ | apply bn_ | apply b1_) | exact HB.out))) : w.heap.size ≤ gb359)); have n3_ := M_ ((by rw [hg]; exact (below_size (by repeat (first | (with_reducible first | exact HB.out | apply ba_ | apply bn_ | apply b1_) | exact HB.out))) : w.heap.size ≤ gb359)); clear HB; have HB := n0_; have BK359 := n1_; have GW359 := n2_; have GE359 := n3_; clear n0_ n1_ n2_ n3_; clear hb hbox hg) | ((with_reducible refine gate_dst (N := 9) rfl ?_); refine box_event ?hg (N := 9) ?hd (cs := #[.slice A0 l0.length c0, .int .i64 0, .int .u64 0]) (t := 127) ?hr ?_; (case hd => rfl); (case hg => rfl); (case hr => first | (go_simp; done) | (go_simp; rfl)); intro g363 hg w7 hbox hb2; have hb := below_step (by repeat (first | (with_reducible first | exact HB.out | apply ba_ | apply bn_ | apply b1_ | refine bs_ ?_ GE359.out) | exact HB.out)) hb2; have hi := newCur_is A2.out (by exact HR0.out) hbox (by rw [hg]; exact (below_size (by repeat (first | (with_reducible first | exact HB.out | apply ba_ | apply bn_ | apply b1_ | refine bs_ ?_ GE359.out) | exact HB.out)))); clear hg hbox; have n0_ := M_ (blk_below (g := gb359) (o := .cells #[.int .i64 0, .int .i64 0] 48 (0, 0)) (by (with_reducible repeat (first | refine kn_ ?_ _ | refine kd_ ?_ | refine ka_ ?_ _)); exact BK359.out) hb2); have n1_ := M_ (hb); have n2_ := M_ (hi); have n3_ := M_ (IsS127.ne_blk hi (blk_below (g := gb359) (o := .cells #[.int .i64 0, .int .i64 0] 48 (0, 0)) (by (with_reducible repeat (first | refine kn_ ?_ _ | refine kd_ ?_ | refine ka_ ?_ _)); exact BK359.out) hb2) (by decide)); have n4_ := M_ (Ne.symm (IsS127.ne_blk hi (blk_below (g := gb359) (o := .cells #[.int .i64 0, .int .i64 0] 48 (0, 0)) (by (with_reducible repeat (first | refine kn_ ?_ _ | refine kd_ ?_ | refine ka_ ?_ _)); exact BK359.out) hb2) (by decide))); clear BK359; clear HB; have BK359 := n0_; have HB := n1_; have HI363 := n2_; have NB363_359 := n3_; have NB359_363 := n4_; clear n0_ n1_ n2_ n3_ n4_; (try clear hb); (try clear hb2); (try clear hk); (try clear hi)) | ((with_reducible refine gate_callee (f := 116) rfl ?_); refine goesL_ (some 11) rfl rfl Try.func116 (by kernel_rfl) rfl #[.pointer (some ⟨g363, 0, none⟩)] rfl (by (try simp only [List.map_toArray, List.map_cons, List.map_nil]); first | done | rfl | (simp only [List.length_drop, List.length_take]; rfl)) ?_; (with_reducible refine (spec_l1Cur_anyTempos.calls k g363 t360 t361 t362 t364 t367 t368 w _ ?side1 ?side2 A3.out).mono ?_); (case side1 => repeat (first | (with_reducible first | exact HI363.out | apply IsS127.alloc | apply IsS127.drewN | apply IsS127.drew | apply IsS127.set_1 | apply IsS127.set_2 | refine IsS127.far ?_ NB363_359.out _) | exact HI363.out)); (case side2 => repeat (first | (with_reducible first | exact HB.out | apply ba_ | apply bn_ | apply b1_ | refine bs_ ?_ (IsS127.ge HI363.out) | refine bs_ ?_ GE359.out) | exact HB.out)); rintro e w8 ⟨v365, rfl, ho0, hi, hb, hk⟩; refine ⟨_, rfl, ?_⟩; have n0_ := M_ (KeepBut.blk hk (g' := gb359) (o := .cells #[.int .i64 0, .int .i64 0] 48 (0, 0)) (by (with_reducible repeat (first | refine kn_ ?_ _ | refine kd_ ?_ | refine ka_ ?_ _)); exact BK359.out) NB359_363.out (by simp)); have n1_ := M_ (Kd.R_lower (Kd.R_newB ho0 (g := gb359) (o := .cells #[.int .i64 0, .int .i64 0] 48 (0, 0)) (by (with_reducible repeat (first | refine kn_ ?_ _ | refine kd_ ?_ | refine ka_ ?_ _)); exact BK359.out)) (below_size (by repeat (first | (with_reducible first | exact HB.out | apply ba_ | apply bn_ | apply b1_ | refine bs_ ?_ (IsS127.ge HI363.out) | refine bs_ ?_ GE359.out) | exact HB.out)))); have n2_ := M_ (hb); have n3_ := M_ (hi); clear BK359; clear HB; clear HI363; have BK359 := n0_; have HO366 := n1_; have HB := n2_; have HI363 := n3_; clear n0_ n1_ n2_ n3_; (try clear hb); (try clear hb2); (try clear hk); (try clear hi); (try clear ho0)) | ((with_reducible refine gate_callee (f := 120) rfl ?_); refine goesL_ (some 13) rfl rfl Try.func120 (by kernel_rfl) rfl #[.pointer (some ⟨g363, 0, none⟩)] rfl (by (try simp only [List.map_toArray, List.map_cons, List.map_nil]); first | done | rfl | (simp only [List.length_drop, List.length_take]; rfl)) ?_; (with_reducible refine (spec_l1Cur_pieceStep.calls g363 t360 t367 t368 t369 t370 t371 w _ ?side1 ?side2 A4.out).mono ?_); (case side1 => repeat (first | (with_reducible first | exact HI363.out | apply IsS127.alloc | apply IsS127.drewN | apply IsS127.drew | apply IsS127.set_1 | apply IsS127.set_2 | refine IsS127.far ?_ NB363_359.out _) | exact HI363.out)); (case side2 => repeat (first | (with_reducible first | exact HB.out | apply ba_ | apply bn_ | apply b1_ | refine bs_ ?_ (IsS127.ge HI363.out) | refine bs_ ?_ GE359.out) | exact HB.out)); rintro e w9 ⟨rfl, hi, hb, hk⟩; refine ⟨_, rfl, ?_⟩; have n0_ := M_ (KeepBut.blk hk (g' := gb359) (o := .cells #[.int .i64 0, .int .i64 0] 48 (0, 0)) (by (with_reducible repeat (first | refine kn_ ?_ _ | refine kd_ ?_ | refine ka_ ?_ _)); exact BK359.out) NB359_363.out (by simp)); have n1_ := M_ (rm_ (Kd.R_keep (IsS127.apart (show IsS127 w _ g363 t360 t367 t368 from by repeat (first | (with_reducible first | exact HI363.out | apply IsS127.alloc | apply IsS127.drewN | apply IsS127.drew | apply IsS127.set_1 | apply IsS127.set_2 | refine IsS127.far ?_ NB363_359.out _) | exact HI363.out)) (by (with_reducible repeat (first | apply ra_ | apply rn_ | apply rd_)); exact HO366.out) (by decide)) hk (fun _ h => h.2)) (fun _ h => h.1)); have n2_ := M_ (hb); have n3_ := M_ (hi); clear BK359; clear HO366; clear HB; clear HI363; have BK359 := n0_; have HO366 := n1_; have HB := n2_; have HI363 := n3_; clear n0_ n1_ n2_ n3_; (try clear hb); (try clear hb2); (try clear hk); (try clear hi)))
 (try simp only [Act.put, la_, lb_, lc_])
 go_cut [20] (fun v20 wc => ∃ (kq : Nat) (x20_4 : Bool) (x364001_4 : Int) (x364002_4 : Int), v20 = .bool x20_4 ∧ Aside0 (spec_DrawAddTempo.j0 kq t364 t369 x20_4 t360 x364001_4 x364002_4 = some (r1, r2, r3)) ∧ Aside0 (kq ≤ k) ∧ Aside0 (Kd.R k48 48 wc w.heap.size (fun k_ => k_ ≠ gb359) v365 t364) ∧ Aside0 (wc.heap[gb359]? = some (.cells #[.int .i64 0, .int .i64 0] 48 (0, 0))) ∧ Aside0 (IsS127 w wc g363 t360 x364001_4 x364002_4) ∧ Aside0 (Below w.heap.size w wc))
 case first =>
  have H := HC5.out
  clear HC5
  by_cases c10 : (t364.length : Int) > 0
  ·rw [if_pos c10] at H
   have c10b0 : decide (0 < (t364.length : Int)) = true := decide_eq_true c10
   have c10b1 : decide (0 < t364.length) = true := decide_eq_true (by omega)
   clear c10
   (first | rw [c10b0] | (simp only [i64_w, i32_w]; rw [c10b0]) | skip)
   replace H := Option.bind_eq_some_iff.mp H
   obtain ⟨⟨t372, t373, t374⟩, A110, H⟩ := H
   replace H : (spec_DrawAddTempo.j0 k t364 t369 t372 t360 t373 t374) = some (r1, r2, r3) := H
   have A11 := M_ A110
   clear A110
   have H' := M_ H
   clear H
   obtain ⟨Ao12, co12, eo12⟩ := Kd.R_slice HO366.out
   subst eo12
   go_wp2_with (first | (go_at_call 119; (with_reducible refine (spec_l1Cur_one.calls g363 t360 t370 t371 4 t372 t373 t374 w _ ?side1 ?side2 A11.out).mono ?_); (case side1 => repeat (first | (with_reducible first | exact HI363.out | apply IsS127.alloc | apply IsS127.drewN | apply IsS127.drew | apply IsS127.set_1 | apply IsS127.set_2 | refine IsS127.far ?_ NB363_359.out _) | exact HI363.out)); (case side2 => repeat (first | (with_reducible first | exact HB.out | apply ba_ | apply bn_ | apply b1_ | refine bs_ ?_ (IsS127.ge HI363.out) | refine bs_ ?_ GE359.out) | exact HB.out)); rintro e w13 ⟨rfl, hi, hb, hk⟩; have n0_ := M_ (KeepBut.blk hk (g' := gb359) (o := .cells #[.int .i64 0, .int .i64 0] 48 (0, 0)) (by (with_reducible repeat (first | refine kn_ ?_ _ | refine kd_ ?_ | refine ka_ ?_ _)); exact BK359.out) NB359_363.out (by simp)); have n1_ := M_ (rm_ (Kd.R_keep (IsS127.apart (show IsS127 w _ g363 t360 t370 t371 from by repeat (first | (with_reducible first | exact HI363.out | apply IsS127.alloc | apply IsS127.drewN | apply IsS127.drew | apply IsS127.set_1 | apply IsS127.set_2 | refine IsS127.far ?_ NB363_359.out _) | exact HI363.out)) (by (with_reducible repeat (first | apply ra_ | apply rn_ | apply rd_)); exact HO366.out) (by decide)) hk (fun _ h => h.2)) (fun _ h => h.1)); have n2_ := M_ (hb); have n3_ := M_ (hi); clear BK359; clear HO366; clear HB; clear HI363; have BK359 := n0_; have HO366 := n1_; have HB := n2_; have HI363 := n3_; clear n0_ n1_ n2_ n3_; (try clear hb); (try clear hb2); (try clear hk); (try clear hi)))
   go_meet
   case rel => exact ⟨_, (t372), (t373), (t374), (by first | rfl | (simp; done) | (simp [*]; done)), H', ⟨by first | omega | exact Nat.le_refl _⟩, ⟨by (with_reducible repeat (first | apply ra_ | apply rn_ | apply rd_)); exact rm_ HO366.out (fun _ hk => hk.2)⟩, ⟨by (with_reducible repeat (first | refine kn_ ?_ _ | refine kd_ ?_ | refine ka_ ?_ _)); exact BK359.out⟩, ⟨by repeat (first | (with_reducible first | exact HI363.out | apply IsS127.alloc | apply IsS127.drewN | apply IsS127.drew | apply IsS127.set_1 | apply IsS127.set_2 | refine IsS127.far ?_ NB363_359.out _) | exact HI363.out)⟩, ⟨by repeat (first | (with_reducible first | exact HB.out | apply ba_ | apply bn_ | apply b1_ | refine bs_ ?_ (IsS127.ge HI363.out) | refine bs_ ?_ GE359.out) | exact HB.out)⟩⟩
  ·rw [if_neg c10] at H
   have c10b0 : decide (0 < (t364.length : Int)) = false := decide_eq_false c10
   have c10b1 : decide (0 < t364.length) = false := decide_eq_false (by omega)
   clear c10
   (first | rw [c10b0] | (simp only [i64_w, i32_w]; rw [c10b0]) | skip)
   have H' := M_ H
   clear H
   obtain ⟨Ao14, co14, eo14⟩ := Kd.R_slice HO366.out
   subst eo14
   go_wp2
   go_meet
   case rel => exact ⟨_, (false), (t370), (t371), (by first | rfl | (simp; done) | (simp [*]; done)), H', ⟨by first | omega | exact Nat.le_refl _⟩, ⟨by (with_reducible repeat (first | apply ra_ | apply rn_ | apply rd_)); exact rm_ HO366.out (fun _ hk => hk.2)⟩, ⟨by (with_reducible repeat (first | refine kn_ ?_ _ | refine kd_ ?_ | refine ka_ ?_ _)); exact BK359.out⟩, ⟨by repeat (first | (with_reducible first | exact HI363.out | apply IsS127.alloc | apply IsS127.drewN | apply IsS127.drew | apply IsS127.set_1 | apply IsS127.set_2 | refine IsS127.far ?_ NB363_359.out _) | exact HI363.out)⟩, ⟨by repeat (first | (with_reducible first | exact HB.out | apply ba_ | apply bn_ | apply b1_ | refine bs_ ?_ (IsS127.ge HI363.out) | refine bs_ ?_ GE359.out) | exact HB.out)⟩⟩
 case rest =>
  clear HC5
  try clear c1
  try clear p2
  try clear c6
  try clear c9
  try clear c10
  try clear c10b0
  try clear c10b1
  try clear c11
  try clear c12
  obtain ⟨kq, x20_4, x364001_4, x364002_4, rfl, HA, HJ4, HO_5, BK359, HI363, HB⟩ := hcut
  cases kq with
  | zero => exact absurd HA.out (by simp [spec_DrawAddTempo.j0])
  | succ kj4 =>
   have H := HA.out
   clear HA
   simp only [spec_DrawAddTempo.j0] at H
   have HC15 := M_ H
   clear H
   go_upto_if 20 with (fail)
   go_cut [6] (fun v6 wc => ∃ (kq : Nat) (x6_14 : Int) (x364001_14 : Int) (x364002_14 : Int), v6 = .int .i64 x6_14 ∧ Aside0 (spec_DrawAddTempo.j1 kq t364 x6_14 t360 x364001_14 x364002_14 = some (r1, r2, r3)) ∧ Aside0 (kq ≤ kj4) ∧ Aside0 (Kd.R k48 48 wc w.heap.size (fun k_ => k_ ≠ gb359) v365 t364) ∧ Aside0 (wc.heap[gb359]? = some (.cells #[.int .i64 0, .int .i64 0] 48 (0, 0))) ∧ Aside0 (IsS127 w wc g363 t360 x364001_14 x364002_14) ∧ Aside0 (Below w.heap.size w wc))
   case first =>
    have H := HC15.out
    clear HC15
    by_cases c16 : x20_4 = true
    ·subst c16
     have H1 : ((spec_l1Cur_pick.f t360 x364001_4 x364002_4 (t364.length : Int)).bind fun bt375 => (if 0 ≤ bt375.1 then (if bt375.1 < (t364.length : Int) then (spec_DrawAddTempo.j1 kj4 t364 ((rd_T48 t364 bt375.1).f0) t360 bt375.2.1 bt375.2.2) else (none)) else (none))) = some (r1, r2, r3) := by rw [if_pos rfl] at H; exact H
     clear H
     have H := H1
     clear H1
     replace H := Option.bind_eq_some_iff.mp H
     obtain ⟨⟨t375, t376, t377⟩, A170, H⟩ := H
     replace H : (if 0 ≤ t375 then (if t375 < (t364.length : Int) then (spec_DrawAddTempo.j1 kj4 t364 ((rd_T48 t364 t375).f0) t360 t376 t377) else (none)) else (none)) = some (r1, r2, r3) := H
     have A17 := M_ A170
     clear A170
     by_cases c18 : 0 ≤ t375
     ·rw [if_pos c18] at H
      have c18b0 : decide (0 ≤ t375) = true := decide_eq_true c18
      clear c18
      (first | rw [c18b0] | (simp only [i64_w, i32_w]; rw [c18b0]) | skip)
      by_cases c19 : t375 < (t364.length : Int)
      ·rw [if_pos c19] at H
       have c19b0 : decide (t375 < (t364.length : Int)) = true := decide_eq_true c19
       clear c19
       have H' := M_ H
       clear H
       obtain ⟨Ao20, co20, eo20⟩ := Kd.R_slice HO_5.out
       subst eo20
       go_wp2_with (first | ((with_reducible refine gate_callee (f := 118) rfl ?_); refine goesL_ (some 25) rfl rfl Try.func118 (by kernel_rfl) rfl #[.pointer (some ⟨g363, 0, none⟩), .int .i64 (t364.length : Int)] rfl (by (try simp only [List.map_toArray, List.map_cons, List.map_nil]); first | done | rfl | (simp only [List.length_drop, List.length_take]; rfl)) ?_; (with_reducible refine (spec_l1Cur_pick.calls g363 t360 x364001_4 x364002_4 (t364.length : Int) t375 t376 t377 w _ ?side1 ?side2 A17.out).mono ?_); (case side1 => repeat (first | (with_reducible first | exact HI363.out | apply IsS127.alloc | apply IsS127.drewN | apply IsS127.drew | apply IsS127.set_1 | apply IsS127.set_2 | refine IsS127.far ?_ NB363_359.out _) | exact HI363.out)); (case side2 => repeat (first | (with_reducible first | exact HB.out | apply ba_ | apply bn_ | apply b1_ | refine bs_ ?_ (IsS127.ge HI363.out) | refine bs_ ?_ GE359.out) | exact HB.out)); rintro e w21 ⟨rfl, hi, hb, hk⟩; refine ⟨_, rfl, ?_⟩; have n0_ := M_ (rm_ (Kd.R_keep (IsS127.apart (show IsS127 w _ g363 t360 x364001_4 x364002_4 from by repeat (first | (with_reducible first | exact HI363.out | apply IsS127.alloc | apply IsS127.drewN | apply IsS127.drew | apply IsS127.set_1 | apply IsS127.set_2 | refine IsS127.far ?_ NB363_359.out _) | exact HI363.out)) (by (with_reducible repeat (first | apply ra_ | apply rn_ | apply rd_)); exact HO_5.out) (by decide)) hk (fun _ h => h.2)) (fun _ h => h.1)); have n1_ := M_ (KeepBut.blk hk (g' := gb359) (o := .cells #[.int .i64 0, .int .i64 0] 48 (0, 0)) (by (with_reducible repeat (first | refine kn_ ?_ _ | refine kd_ ?_ | refine ka_ ?_ _)); exact BK359.out) NB359_363.out (by simp)); have n2_ := M_ (hb); have n3_ := M_ (hi); clear HO_5; clear BK359; clear HB; clear HI363; have HO_5 := n0_; have BK359 := n1_; have HB := n2_; have HI363 := n3_; clear n0_ n1_ n2_ n3_; (try clear hb); (try clear hb2); (try clear hk); (try clear hi); have p378 : 0 ≤ (t375 : Int) := of_decide_eq_true (by first | (with_reducible assumption) | assumption); have q378 : t375 < (t364.length : Int) := of_decide_eq_true (by first | (with_reducible assumption) | assumption); obtain ⟨ad378, e378, hx378_0, hx378_1⟩ := at_T48 (Kd.R_reads' HO_5.out).2.2 t375 p378 q378; cases e378; replace p378 := eq_true p378; replace q378 := eq_true q378))
       go_meet
       case rel => exact ⟨_, ((rd_T48 t364 t375).f0), (t376), (t377), (by first | rfl | (simp; done) | (simp [*]; done)), H', ⟨by have := HJ4.out; first | omega | exact Nat.le_refl _⟩, ⟨by (with_reducible repeat (first | apply ra_ | apply rn_ | apply rd_)); exact HO_5.out⟩, ⟨by (with_reducible repeat (first | refine kn_ ?_ _ | refine kd_ ?_ | refine ka_ ?_ _)); exact BK359.out⟩, ⟨by repeat (first | (with_reducible first | exact HI363.out | apply IsS127.alloc | apply IsS127.drewN | apply IsS127.drew | apply IsS127.set_1 | apply IsS127.set_2 | refine IsS127.far ?_ NB363_359.out _) | exact HI363.out)⟩, ⟨by repeat (first | (with_reducible first | exact HB.out | apply ba_ | apply bn_ | apply b1_ | refine bs_ ?_ (IsS127.ge HI363.out) | refine bs_ ?_ GE359.out) | exact HB.out)⟩⟩
      ·rw [if_neg c19] at H
       exact absurd H (by simp)
     ·rw [if_neg c18] at H
      exact absurd H (by simp)
    ·replace c16 := Bool.eq_false_iff.mpr c16
     subst c16
     have H1 : (spec_DrawAddTempo.j1 kj4 t364 t369 t360 x364001_4 x364002_4) = some (r1, r2, r3) := by rw [if_neg (show ¬ (false = true) by decide)] at H; exact H
     clear H
     have H := H1
     clear H1
     have H' := M_ H
     clear H
     go_wp2
     go_meet
     case rel => exact ⟨_, (t369), (x364001_4), (x364002_4), (by first | rfl | (simp; done) | (simp [*]; done)), H', ⟨by have := HJ4.out; first | omega | exact Nat.le_refl _⟩, ⟨by (with_reducible repeat (first | apply ra_ | apply rn_ | apply rd_)); exact HO_5.out⟩, ⟨by (with_reducible repeat (first | refine kn_ ?_ _ | refine kd_ ?_ | refine ka_ ?_ _)); exact BK359.out⟩, ⟨by repeat (first | (with_reducible first | exact HI363.out | apply IsS127.alloc | apply IsS127.drewN | apply IsS127.drew | apply IsS127.set_1 | apply IsS127.set_2 | refine IsS127.far ?_ NB363_359.out _) | exact HI363.out)⟩, ⟨by repeat (first | (with_reducible first | exact HB.out | apply ba_ | apply bn_ | apply b1_ | refine bs_ ?_ (IsS127.ge HI363.out) | refine bs_ ?_ GE359.out) | exact HB.out)⟩⟩
   case rest =>
    clear HC15
    try clear c1
    try clear p2
    try clear p3
    try clear q3
    try clear hx3
    try clear c6
    try clear c9
    try clear c10
    try clear c10b0
    try clear c10b1
    try clear c11
    try clear c12
    try clear c16
    try clear c18
    try clear c18b0
    try clear c19
    try clear c19b0
    try clear hx378_0
    try clear hx378_1
    try clear p2
    try clear p378
    try clear q378
    obtain ⟨kq, x6_14, x364001_14, x364002_14, rfl, HA, HJ14, HO_5, BK359, HI363, HB⟩ := hcut
    cases kq with
    | zero => exact absurd HA.out (by simp [spec_DrawAddTempo.j1])
    | succ kj14 =>
     have H := HA.out
     clear HA
     simp only [spec_DrawAddTempo.j1] at H
     replace H := Option.bind_eq_some_iff.mp H
     obtain ⟨⟨t379, t380, t381⟩, A220, H⟩ := H
     replace H : ((spec_l1Cur_lasts.f t360 t380 t381).bind fun bt382 => ((spec_l1Cur_among.f t360 bt382.2.1 bt382.2.2 (([999, 1000001] : List Int))).bind fun bt388 => ((spec_l1Cur_among.f t360 bt388.2.1 bt388.2.2 (([t379, bt382.1, bt388.1] : List Int))).bind fun bt394 => (some (t364, x6_14, bt394.1))))) = some (r1, r2, r3) := H
     have A22 := M_ A220
     clear A220
     replace H := Option.bind_eq_some_iff.mp H
     obtain ⟨⟨t382, t383, t384⟩, A230, H⟩ := H
     replace H : ((spec_l1Cur_among.f t360 t383 t384 (([999, 1000001] : List Int))).bind fun bt388 => ((spec_l1Cur_among.f t360 bt388.2.1 bt388.2.2 (([t379, t382, bt388.1] : List Int))).bind fun bt394 => (some (t364, x6_14, bt394.1)))) = some (r1, r2, r3) := H
     have A23 := M_ A230
     clear A230
     obtain ⟨y385, hy385⟩ : ∃ y_ : List Int, y_ = (([999, 1000001] : List Int)) := ⟨_, rfl⟩
     replace H : ((spec_l1Cur_among.f t360 t383 t384 y385).bind fun bt388 => ((spec_l1Cur_among.f t360 bt388.2.1 bt388.2.2 (([t379, t382, bt388.1] : List Int))).bind fun bt394 => (some (t364, x6_14, bt394.1)))) = some (r1, r2, r3) := by first | (rw [hy385]; with_reducible exact H) | (have H2_ := (Option.bind_some _ _).symm.trans H; rw [hy385]; with_reducible exact H2_) | (have H2_ := (Option.bind_some _ _).symm.trans H; with_reducible exact H2_) | with_reducible exact H | (rw [hy385]; exact H) | exact H
     have Ny385 := M_ hy385
     clear hy385
     replace H := Option.bind_eq_some_iff.mp H
     obtain ⟨⟨t388, t389, t390⟩, A240, H⟩ := H
     replace H : ((spec_l1Cur_among.f t360 t389 t390 (([t379, t382, t388] : List Int))).bind fun bt394 => (some (t364, x6_14, bt394.1))) = some (r1, r2, r3) := H
     have A24 := M_ A240
     clear A240
     obtain ⟨y391, hy391⟩ : ∃ y_ : List Int, y_ = (([t379, t382, t388] : List Int)) := ⟨_, rfl⟩
     replace H : ((spec_l1Cur_among.f t360 t389 t390 y391).bind fun bt394 => (some (t364, x6_14, bt394.1))) = some (r1, r2, r3) := by first | (rw [hy391]; with_reducible exact H) | (have H2_ := (Option.bind_some _ _).symm.trans H; rw [hy391]; with_reducible exact H2_) | (have H2_ := (Option.bind_some _ _).symm.trans H; with_reducible exact H2_) | with_reducible exact H | (rw [hy391]; exact H) | exact H
     have Ny391 := M_ hy391
     clear hy391
     replace H := Option.bind_eq_some_iff.mp H
     obtain ⟨⟨t394, t395, t396⟩, A250, H⟩ := H
     replace H : (some (t364, x6_14, t394)) = some (r1, r2, r3) := H
     have A25 := M_ A250
     clear A250
     simp only [Option.some.injEq, Prod.mk.injEq] at H
     obtain ⟨rfl, rfl, rfl⟩ := H
     go_wp2_with (first | ((with_reducible refine gate_callee (f := 122) rfl ?_); refine goesL_ (some 33) rfl rfl Try.func122 (by kernel_rfl) rfl #[.pointer (some ⟨g363, 0, none⟩)] rfl (by (try simp only [List.map_toArray, List.map_cons, List.map_nil]); first | done | rfl | (simp only [List.length_drop, List.length_take]; rfl)) ?_; (with_reducible refine (spec_l1Cur_lasts.calls g363 t360 x364001_14 x364002_14 t379 t380 t381 w _ ?side1 ?side2 A22.out).mono ?_); (case side1 => repeat (first | (with_reducible first | exact HI363.out | apply IsS127.alloc | apply IsS127.drewN | apply IsS127.drew | apply IsS127.set_1 | apply IsS127.set_2 | refine IsS127.far ?_ NB363_359.out _) | exact HI363.out)); (case side2 => repeat (first | (with_reducible first | exact HB.out | apply ba_ | apply bn_ | apply b1_ | refine bs_ ?_ (IsS127.ge HI363.out) | refine bs_ ?_ GE359.out) | exact HB.out)); rintro e w26 ⟨rfl, hi, hb, hk⟩; refine ⟨_, rfl, ?_⟩; have n0_ := M_ (rm_ (Kd.R_keep (IsS127.apart (show IsS127 w _ g363 t360 x364001_14 x364002_14 from by repeat (first | (with_reducible first | exact HI363.out | apply IsS127.alloc | apply IsS127.drewN | apply IsS127.drew | apply IsS127.set_1 | apply IsS127.set_2 | refine IsS127.far ?_ NB363_359.out _) | exact HI363.out)) (by (with_reducible repeat (first | apply ra_ | apply rn_ | apply rd_)); exact HO_5.out) (by decide)) hk (fun _ h => h.2)) (fun _ h => h.1)); have n1_ := M_ (KeepBut.blk hk (g' := gb359) (o := .cells #[.int .i64 0, .int .i64 0] 48 (0, 0)) (by (with_reducible repeat (first | refine kn_ ?_ _ | refine kd_ ?_ | refine ka_ ?_ _)); exact BK359.out) NB359_363.out (by simp)); have n2_ := M_ (hb); have n3_ := M_ (hi); clear HO_5; clear BK359; clear HB; clear HI363; have HO_5 := n0_; have BK359 := n1_; have HB := n2_; have HI363 := n3_; clear n0_ n1_ n2_ n3_; (try clear hb); (try clear hb2); (try clear hk); (try clear hi)) | ((with_reducible refine gate_callee (f := 122) rfl ?_); refine goesL_ (some 35) rfl rfl Try.func122 (by kernel_rfl) rfl #[.pointer (some ⟨g363, 0, none⟩)] rfl (by (try simp only [List.map_toArray, List.map_cons, List.map_nil]); first | done | rfl | (simp only [List.length_drop, List.length_take]; rfl)) ?_; (with_reducible refine (spec_l1Cur_lasts.calls g363 t360 t380 t381 t382 t383 t384 w _ ?side1 ?side2 A23.out).mono ?_); (case side1 => repeat (first | (with_reducible first | exact HI363.out | apply IsS127.alloc | apply IsS127.drewN | apply IsS127.drew | apply IsS127.set_1 | apply IsS127.set_2 | refine IsS127.far ?_ NB363_359.out _) | exact HI363.out)); (case side2 => repeat (first | (with_reducible first | exact HB.out | apply ba_ | apply bn_ | apply b1_ | refine bs_ ?_ (IsS127.ge HI363.out) | refine bs_ ?_ GE359.out) | exact HB.out)); rintro e w27 ⟨rfl, hi, hb, hk⟩; refine ⟨_, rfl, ?_⟩; have n0_ := M_ (rm_ (Kd.R_keep (IsS127.apart (show IsS127 w _ g363 t360 t380 t381 from by repeat (first | (with_reducible first | exact HI363.out | apply IsS127.alloc | apply IsS127.drewN | apply IsS127.drew | apply IsS127.set_1 | apply IsS127.set_2 | refine IsS127.far ?_ NB363_359.out _) | exact HI363.out)) (by (with_reducible repeat (first | apply ra_ | apply rn_ | apply rd_)); exact HO_5.out) (by decide)) hk (fun _ h => h.2)) (fun _ h => h.1)); have n1_ := M_ (KeepBut.blk hk (g' := gb359) (o := .cells #[.int .i64 0, .int .i64 0] 48 (0, 0)) (by (with_reducible repeat (first | refine kn_ ?_ _ | refine kd_ ?_ | refine ka_ ?_ _)); exact BK359.out) NB359_363.out (by simp)); have n2_ := M_ (hb); have n3_ := M_ (hi); clear HO_5; clear BK359; clear HB; clear HI363; have HO_5 := n0_; have BK359 := n1_; have HB := n2_; have HI363 := n3_; clear n0_ n1_ n2_ n3_; (try clear hb); (try clear hb2); (try clear hk); (try clear hi)) | ((with_reducible refine gate_dst (N := 37) rfl ?_); refine Kd.R_lit (Kd.int .i64) _ 3 ?hg (N := 37) ?hd (xs := ([999, 1000001] : List Int)) (inner := [.int .i64 999, .int .i64 1000001]) (ok := fun _ => True) (okp := fun _ => True) ?hr ?hp (fun _ hk => hk) trivial (Below.refl _ _) (Nat.le_refl _) (by simp) ?_; (case hd => rfl); (case hg => rfl); (case hr => first | (go_simp; done) | (go_simp; rfl)); (case hp => exact (Reps.one (show Kd.M (Kd.int .i64) _ _ _ 999 [.int .i64 999] from rfl) (Reps.one (show Kd.M (Kd.int .i64) _ _ _ 1000001 [.int .i64 1000001] from rfl) (Reps.none _ _)))); intro v386 w28 ho29 hb hg_ hnew_; clear hg_ hnew_; (first | rw [← Ny385.out] at ho29 | (simp only [Int.reduceToNat] at ho29; rw [← Ny385.out] at ho29)); have n0_ := M_ (rb_ (by (with_reducible repeat (first | apply ra_ | apply rn_ | apply rd_)); exact HO_5.out) hb); have n1_ := M_ (Kd.R_lower ho29 (below_size (by repeat (first | (with_reducible first | exact HB.out | apply ba_ | apply bn_ | apply b1_ | refine bs_ ?_ (IsS127.ge HI363.out) | refine bs_ ?_ GE359.out) | exact HB.out)))); have n2_ := M_ (blk_below (g := gb359) (o := .cells #[.int .i64 0, .int .i64 0] 48 (0, 0)) (by (with_reducible repeat (first | refine kn_ ?_ _ | refine kd_ ?_ | refine ka_ ?_ _)); exact BK359.out) hb); have n3_ := M_ (IsS127.below (by repeat (first | (with_reducible first | exact HI363.out | apply IsS127.alloc | apply IsS127.drewN | apply IsS127.drew | apply IsS127.set_1 | apply IsS127.set_2 | refine IsS127.far ?_ NB363_359.out _) | exact HI363.out)) hb); have n4_ := M_ (below_step (by repeat (first | (with_reducible first | exact HB.out | apply ba_ | apply bn_ | apply b1_ | refine bs_ ?_ (IsS127.ge HI363.out) | refine bs_ ?_ GE359.out) | exact HB.out)) hb); clear HO_5; clear BK359; clear HI363; clear HB; have HO_5 := n0_; have HO387 := n1_; have BK359 := n2_; have HI363 := n3_; have HB := n4_; clear n0_ n1_ n2_ n3_ n4_; clear hb ho29; obtain ⟨Ao30, co30, eo30⟩ := Kd.R_slice HO387.out; subst eo30) | ((with_reducible refine gate_callee (f := 117) rfl ?_); refine goesL_ (some 38) rfl rfl Try.func117 (by kernel_rfl) rfl #[.pointer (some ⟨g363, 0, none⟩), .slice Ao30 y385.length co30] rfl (by (try simp only [List.map_toArray, List.map_cons, List.map_nil]); first | done | rfl | (simp only [List.length_drop, List.length_take]; rfl)) ?_; (with_reducible refine (spec_l1Cur_among.calls g363 t360 t383 t384 _ _ y385 t388 t389 t390 w _ ?side1 ?side2 ?side3 ?side4 ?side5 A24.out).mono ?_); (case side1 => repeat (first | (with_reducible first | exact HI363.out | apply IsS127.alloc | apply IsS127.drewN | apply IsS127.drew | apply IsS127.set_1 | apply IsS127.set_2 | refine IsS127.far ?_ NB363_359.out _) | exact HI363.out)); (case side2 => repeat (first | (with_reducible first | exact HB.out | apply ba_ | apply bn_ | apply b1_ | refine bs_ ?_ (IsS127.ge HI363.out) | refine bs_ ?_ GE359.out) | exact HB.out)); (case side3 => repeat (first | exact (Kd.R_reads' HO387.out).2.2 | (with_reducible refine Kd.C_alloc ?_ _) | (with_reducible refine Kd.C_drewN ?_ _) | (with_reducible refine Kd.C_drew ?_))); (case side4 => exact (Kd.R_reads' HO387.out).2.1); (case side5 => exact far_slice (IsS127.own_ne HI363.out HO387.out (by decide))); rintro e w31 ⟨rfl, hi, hb, hk⟩; refine ⟨_, rfl, ?_⟩; have n0_ := M_ (rm_ (Kd.R_keep (IsS127.apart (show IsS127 w _ g363 t360 t383 t384 from by repeat (first | (with_reducible first | exact HI363.out | apply IsS127.alloc | apply IsS127.drewN | apply IsS127.drew | apply IsS127.set_1 | apply IsS127.set_2 | refine IsS127.far ?_ NB363_359.out _) | exact HI363.out)) (by (with_reducible repeat (first | apply ra_ | apply rn_ | apply rd_)); exact HO_5.out) (by decide)) hk (fun _ h => h.2)) (fun _ h => h.1)); have n1_ := M_ (KeepBut.blk hk (g' := gb359) (o := .cells #[.int .i64 0, .int .i64 0] 48 (0, 0)) (by (with_reducible repeat (first | refine kn_ ?_ _ | refine kd_ ?_ | refine ka_ ?_ _)); exact BK359.out) NB359_363.out (by simp)); have n2_ := M_ (rm_ (Kd.R_keep (IsS127.apart (show IsS127 w _ g363 t360 t383 t384 from by repeat (first | (with_reducible first | exact HI363.out | apply IsS127.alloc | apply IsS127.drewN | apply IsS127.drew | apply IsS127.set_1 | apply IsS127.set_2 | refine IsS127.far ?_ NB363_359.out _) | exact HI363.out)) (by (with_reducible repeat (first | apply ra_ | apply rn_ | apply rd_)); exact HO387.out) (by decide)) hk (fun _ h => h.2)) (fun _ h => h.1)); have n3_ := M_ (hb); have n4_ := M_ (hi); clear HO_5; clear BK359; clear HO387; clear HB; clear HI363; have HO_5 := n0_; have BK359 := n1_; have HO387 := n2_; have HB := n3_; have HI363 := n4_; clear n0_ n1_ n2_ n3_ n4_; (try clear hb); (try clear hb2); (try clear hk); (try clear hi)) | ((with_reducible refine gate_dst (N := 39) rfl ?_); refine Kd.R_lit (Kd.int .i64) _ 3 ?hg (N := 39) ?hd (xs := ([t379, t382, t388] : List Int)) (inner := [.int .i64 t379, .int .i64 t382, .int .i64 t388]) (ok := fun _ => True) (okp := fun _ => True) ?hr ?hp (fun _ hk => hk) trivial (Below.refl _ _) (Nat.le_refl _) (by simp) ?_; (case hd => rfl); (case hg => rfl); (case hr => first | (go_simp; done) | (go_simp; rfl)); (case hp => exact (Reps.one (show Kd.M (Kd.int .i64) _ _ _ t379 [.int .i64 t379] from rfl) (Reps.one (show Kd.M (Kd.int .i64) _ _ _ t382 [.int .i64 t382] from rfl) (Reps.one (show Kd.M (Kd.int .i64) _ _ _ t388 [.int .i64 t388] from rfl) (Reps.none _ _))))); intro v392 w32 ho33 hb hg_ hnew_; clear hg_ hnew_; (first | rw [← Ny391.out] at ho33 | (simp only [Int.reduceToNat] at ho33; rw [← Ny391.out] at ho33)); have n0_ := M_ (rb_ (by (with_reducible repeat (first | apply ra_ | apply rn_ | apply rd_)); exact HO_5.out) hb); have n1_ := M_ (Kd.R_elder' (by (with_reducible repeat (first | apply ra_ | apply rn_ | apply rd_)); exact HO387.out) (Kd.R_base ho33) hb); have n2_ := M_ (Kd.R_lower (Kd.R_new' ho33 (Kd.R_lt (by (with_reducible repeat (first | apply ra_ | apply rn_ | apply rd_)); exact HO387.out))) (below_size (by repeat (first | (with_reducible first | exact HB.out | apply ba_ | apply bn_ | apply b1_ | refine bs_ ?_ (IsS127.ge HI363.out) | refine bs_ ?_ GE359.out) | exact HB.out)))); have n3_ := M_ (blk_below (g := gb359) (o := .cells #[.int .i64 0, .int .i64 0] 48 (0, 0)) (by (with_reducible repeat (first | refine kn_ ?_ _ | refine kd_ ?_ | refine ka_ ?_ _)); exact BK359.out) hb); have n4_ := M_ (IsS127.below (by repeat (first | (with_reducible first | exact HI363.out | apply IsS127.alloc | apply IsS127.drewN | apply IsS127.drew | apply IsS127.set_1 | apply IsS127.set_2 | refine IsS127.far ?_ NB363_359.out _) | exact HI363.out)) hb); have n5_ := M_ (below_step (by repeat (first | (with_reducible first | exact HB.out | apply ba_ | apply bn_ | apply b1_ | refine bs_ ?_ (IsS127.ge HI363.out) | refine bs_ ?_ GE359.out) | exact HB.out)) hb); clear HO_5; clear HO387; clear BK359; clear HI363; clear HB; have HO_5 := n0_; have HO387 := n1_; have HO393 := n2_; have BK359 := n3_; have HI363 := n4_; have HB := n5_; clear n0_ n1_ n2_ n3_ n4_ n5_; clear hb ho33; obtain ⟨Ao34, co34, eo34⟩ := Kd.R_slice HO393.out; subst eo34) | ((with_reducible refine gate_callee (f := 117) rfl ?_); refine goesL_ (some 40) rfl rfl Try.func117 (by kernel_rfl) rfl #[.pointer (some ⟨g363, 0, none⟩), .slice Ao34 y391.length co34] rfl (by (try simp only [List.map_toArray, List.map_cons, List.map_nil]); first | done | rfl | (simp only [List.length_drop, List.length_take]; rfl)) ?_; (with_reducible refine (spec_l1Cur_among.calls g363 t360 t389 t390 _ _ y391 t394 t395 t396 w _ ?side1 ?side2 ?side3 ?side4 ?side5 A25.out).mono ?_); (case side1 => repeat (first | (with_reducible first | exact HI363.out | apply IsS127.alloc | apply IsS127.drewN | apply IsS127.drew | apply IsS127.set_1 | apply IsS127.set_2 | refine IsS127.far ?_ NB363_359.out _) | exact HI363.out)); (case side2 => repeat (first | (with_reducible first | exact HB.out | apply ba_ | apply bn_ | apply b1_ | refine bs_ ?_ (IsS127.ge HI363.out) | refine bs_ ?_ GE359.out) | exact HB.out)); (case side3 => repeat (first | exact (Kd.R_reads' HO393.out).2.2 | (with_reducible refine Kd.C_alloc ?_ _) | (with_reducible refine Kd.C_drewN ?_ _) | (with_reducible refine Kd.C_drew ?_))); (case side4 => exact (Kd.R_reads' HO393.out).2.1); (case side5 => exact far_slice (IsS127.own_ne HI363.out HO393.out (by decide))); rintro e w35 ⟨rfl, hi, hb, hk⟩; refine ⟨_, rfl, ?_⟩; have n0_ := M_ (rm_ (Kd.R_keep (IsS127.apart (show IsS127 w _ g363 t360 t389 t390 from by repeat (first | (with_reducible first | exact HI363.out | apply IsS127.alloc | apply IsS127.drewN | apply IsS127.drew | apply IsS127.set_1 | apply IsS127.set_2 | refine IsS127.far ?_ NB363_359.out _) | exact HI363.out)) (by (with_reducible repeat (first | apply ra_ | apply rn_ | apply rd_)); exact HO_5.out) (by decide)) hk (fun _ h => h.2)) (fun _ h => h.1)); have n1_ := M_ (KeepBut.blk hk (g' := gb359) (o := .cells #[.int .i64 0, .int .i64 0] 48 (0, 0)) (by (with_reducible repeat (first | refine kn_ ?_ _ | refine kd_ ?_ | refine ka_ ?_ _)); exact BK359.out) NB359_363.out (by simp)); have n2_ := M_ (rm_ (Kd.R_keep (IsS127.apart (show IsS127 w _ g363 t360 t389 t390 from by repeat (first | (with_reducible first | exact HI363.out | apply IsS127.alloc | apply IsS127.drewN | apply IsS127.drew | apply IsS127.set_1 | apply IsS127.set_2 | refine IsS127.far ?_ NB363_359.out _) | exact HI363.out)) (by (with_reducible repeat (first | apply ra_ | apply rn_ | apply rd_)); exact HO387.out) (by decide)) hk (fun _ h => h.2)) (fun _ h => h.1)); have n3_ := M_ (rm_ (Kd.R_keep (IsS127.apart (show IsS127 w _ g363 t360 t389 t390 from by repeat (first | (with_reducible first | exact HI363.out | apply IsS127.alloc | apply IsS127.drewN | apply IsS127.drew | apply IsS127.set_1 | apply IsS127.set_2 | refine IsS127.far ?_ NB363_359.out _) | exact HI363.out)) (by (with_reducible repeat (first | apply ra_ | apply rn_ | apply rd_)); exact HO393.out) (by decide)) hk (fun _ h => h.2)) (fun _ h => h.1)); have n4_ := M_ (hb); have n5_ := M_ (hi); clear HO_5; clear BK359; clear HO387; clear HO393; clear HB; clear HI363; have HO_5 := n0_; have BK359 := n1_; have HO387 := n2_; have HO393 := n3_; have HB := n4_; have HI363 := n5_; clear n0_ n1_ n2_ n3_ n4_ n5_; (try clear hb); (try clear hb2); (try clear hk); (try clear hi); have hnb36 := NB359_363.out; have hnc36 := NB363_359.out; have hcz37_0 : w35.cell? ⟨gb359, 0, none⟩ = some (.int .i64 0) := (blk_cell BK359.out 0).trans rfl; have hcz37_1 : w35.cell? ⟨gb359, 1, none⟩ = some (.int .i64 0) := (blk_cell BK359.out 1).trans rfl; have hfz37_0 := blk_frozen BK359.out 0; have hfz37_1 := blk_frozen BK359.out 1))
     refine bodyPost_ret (results_tc rfl _ _ gb359 48 #[.int .i64 x6_14, .int .i64 t394] (0, 0) _ rfl (by (with_reducible repeat (first | refine kn_ ?_ _ | refine kd_ ?_ | refine ka_ ?_ _)); refine blk_put (cs := #[.int .i64 x6_14, .int .i64 0]) ?_ 1 _ rfl; (with_reducible repeat (first | refine kn_ ?_ _ | refine kd_ ?_ | refine ka_ ?_ _)); refine blk_put (cs := #[.int .i64 0, .int .i64 0]) ?_ 0 _ rfl; (with_reducible repeat (first | refine kn_ ?_ _ | refine kd_ ?_ | refine ka_ ?_ _)); exact BK359.out) Try.underlying48 rfl (by kernel_rfl)) rfl ?_
     exact ⟨_, by first | rfl | (simp [errW_none, errW_some] <;> rfl) | (simp [*, errW_none, errW_some] <;> rfl), by (with_reducible repeat (first | apply ra_ | apply rn_ | apply rd_)); exact rm_ (Kd.R_far (p := ⟨gb359, 1, none⟩) (Kd.R_far (p := ⟨gb359, 0, none⟩) (rm_ HO_5.out (fun k_ hk => (⟨hk, hk⟩ : _ ∧ k_ ≠ gb359))) (fun _ hk => hk.2) (.int .i64 x6_14)) (fun _ hk => hk.2) (.int .i64 t394)) (fun _ hk => trivial), by repeat (first | (with_reducible first | exact HB.out | apply ba_ | apply bn_ | apply b1_ | refine bs_ ?_ (IsS127.ge HI363.out) | refine bs_ ?_ GE359.out) | exact HB.out)⟩

def laws_qTempos.l0 : Nat → List (S48) → List (S48) → Int → Int → Option (Bool)
 | 0, _, _, _, _ => none
 | k + 1, x0, x1, x12, x13 => if x13 < x12 then (if 0 ≤ x13 then (if x13 < (x0.length : Int) then (if x13 < (x1.length : Int) then (if (!(((rd_T48 x0 x13).f0) == ((rd_T48 x1 x13).f0)) || (!(((rd_T48 x0 x13).f1) == ((rd_T48 x1 x13).f1)))) = true then (some false) else (laws_qTempos.l0 k x0 x1 x12 (wrap64 (x13 + 1)))) else (none)) else (none)) else (none)) else (some true)
def laws_qTempos.f (k : Nat) (l0 : List (S48)) (l1 : List (S48)) : Option (Bool) := if (l0.length : Int) = (l1.length : Int) then (laws_qTempos.l0 k l0 l1 (l0.length : Int) 0) else (some false)
theorem laws_qTempos.mono_l : ∀ k, (∀ y0 y1 y2 y3, LeO (laws_qTempos.l0 k y0 y1 y2 y3) (laws_qTempos.l0 (k + 1) y0 y1 y2 y3))
 | 0 => fun _ _ _ _ r h => by simp [laws_qTempos.l0] at h
 | k + 1 => by
  have ih0 := laws_qTempos.mono_l k
  ·intro y0 y1 y2 y3
   unfold laws_qTempos.l0
   repeat' first
   | (with_reducible exact ih0 _ _ _ _)
   | (with_reducible exact LeO.refl _)
   | (with_reducible exact LeO.none _)
   | (with_reducible refine LeO.ite ?_ ?_)
   | (with_reducible refine LeO.bind ?_ (fun _ => ?_))
   | exact ih0 _ _ _ _
   | exact LeO.none _
   | refine LeO.ite ?_ ?_
   | refine LeO.bind ?_ (fun _ => ?_)
theorem laws_qTempos.mono : ∀ a0 a1 k, LeO (laws_qTempos.f k a0 a1) (laws_qTempos.f (k + 1) a0 a1) := by
 intro a0 a1 k
 have ih0 := laws_qTempos.mono_l k
 unfold laws_qTempos.f
 repeat' first
   | (with_reducible exact ih0 _ _ _ _)
   | (with_reducible exact LeO.refl _)
   | (with_reducible exact LeO.none _)
   | (with_reducible refine LeO.ite ?_ ?_)
   | (with_reducible refine LeO.bind ?_ (fun _ => ?_))
   | exact ih0 _ _ _ _
   | exact LeO.none _
   | refine LeO.ite ?_ ?_
   | refine LeO.bind ?_ (fun _ => ?_)
set_option maxHeartbeats 8000000 in
set_option maxRecDepth 100000 in
theorem laws_qTempos.calls (k : Nat) (A0 : Option Addr) (c0 : Nat) (l0 : List (S48)) (A1 : Option Addr) (c1 : Nat) (l1 : List (S48)) (r : Bool) (w : World) (hr0 : Kd.C k48 w A0 l0.length l0) (hc0 : l0.length ≤ c0) (hr1 : Kd.C k48 w A1 l1.length l1) (hc1 : l1.length ≤ c1) (h : laws_qTempos.f k l0 l1 = some r) :
  Calls Try.prog 64 #[.slice A0 l0.length c0, .slice A1 l1.length c1] w fun e w' => e = .returned (.bool r) ∧ Drawn0 w w' := by
 have hu48 := Try.underlying48
 have HR0 := M_ hr0
 have HC0 := M_ hc0
 clear hr0 hc0
 have HR1 := M_ hr1
 have HC1 := M_ hc1
 clear hr1 hc1
 have H : (if (l0.length : Int) = (l1.length : Int) then (laws_qTempos.l0 k l0 l1 (l0.length : Int) 0) else (some false)) = some r := h
 clear h
 by_cases c3 : (l0.length : Int) = (l1.length : Int)
 ·rw [if_pos c3] at H
  have c3b0 : ((l0.length : Int) == (l1.length : Int)) = true := beq_iff_eq.mpr c3
  have c3b1 : ((l0.length : Int) != (l1.length : Int)) = false := bne_eq_false_iff_eq.mpr c3
  have c3b2 : (l0.length == l1.length) = true := by first | simpa using c3 | (simp at c3 ⊢; omega)
  clear c3
  have H' := M_ H
  clear H
  go_enter Try.func64, Try.ntmps64
  go_wp2
  repeat (go_quiet (fail); try go_wp2)
  go_loopg [13] k (fun kq v13 w' => ∃ (x13_1 : Int), v13 = .int .i64 x13_1 ∧ Aside0 (laws_qTempos.l0 kq l0 l1 (l0.length : Int) x13_1 = some r) ∧ Aside0 (kq ≤ k) ∧ Drawn0 w w')
  case atStart => exact ⟨(0), (by first | rfl | (simp; done) | (simp [*]; done)), H', ⟨Nat.le_refl _⟩, by repeat (first | exact Drawn0.refl _ | apply Drawn0.step)⟩
  case round =>
   clear H'
   try clear c1
   try clear p2
   try clear c3
   try clear c3b0
   try clear c3b1
   try clear c3b2
   obtain ⟨x13_1, rfl, HA, HK1, ⟨m1, rfl⟩⟩ := hrel
   cases gk with
   | zero => exact absurd HA.out (by simp [laws_qTempos.l0])
   | succ k1 =>
    have H := HA.out
    clear HA
    simp only [laws_qTempos.l0] at H
    by_cases c4 : x13_1 < (l0.length : Int)
    ·rw [if_pos c4] at H
     have c4b0 : decide (x13_1 < (l0.length : Int)) = true := decide_eq_true c4
     clear c4
     by_cases c5 : 0 ≤ x13_1
     ·rw [if_pos c5] at H
      have c5b0 : decide (0 ≤ x13_1) = true := decide_eq_true c5
      clear c5
      by_cases c6 : x13_1 < (l0.length : Int)
      ·rw [if_pos c6] at H
       have c6b0 : decide (x13_1 < (l0.length : Int)) = true := decide_eq_true c6
       clear c6
       by_cases c7 : x13_1 < (l1.length : Int)
       ·rw [if_pos c7] at H
        have c7b0 : decide (x13_1 < (l1.length : Int)) = true := decide_eq_true c7
        clear c7
        by_cases c8 : (!(((rd_T48 l0 x13_1).f0) == ((rd_T48 l1 x13_1).f0)) || (!(((rd_T48 l0 x13_1).f1) == ((rd_T48 l1 x13_1).f1)))) = true
        ·rw [if_pos c8] at H
         have c8b0 : (!(((rd_T48 l0 x13_1).f0) == ((rd_T48 l1 x13_1).f0)) || (!(((rd_T48 l0 x13_1).f1) == ((rd_T48 l1 x13_1).f1)))) = true := c8
         clear c8
         obtain rfl := Option.some.inj H
         have p397 : 0 ≤ (x13_1 : Int) := of_decide_eq_true (by first | (with_reducible assumption) | assumption)
         have q397 : x13_1 < (l0.length : Int) := of_decide_eq_true (by first | (with_reducible assumption) | assumption)
         obtain ⟨ad397, e397, hx397_0, hx397_1⟩ := at_T48 HR0.out x13_1 p397 q397
         cases e397
         replace p397 := eq_true p397
         replace q397 := eq_true q397
         have p398 : 0 ≤ (x13_1 : Int) := of_decide_eq_true (by first | (with_reducible assumption) | assumption)
         have q398 : x13_1 < (l1.length : Int) := of_decide_eq_true (by first | (with_reducible assumption) | assumption)
         obtain ⟨ad398, e398, hx398_0, hx398_1⟩ := at_T48 HR1.out x13_1 p398 q398
         cases e398
         replace p398 := eq_true p398
         replace q398 := eq_true q398
         go_wp2
         repeat (go_quiet (fail); try go_wp2)
         go_ret
         exact ⟨by first | rfl | (simp; done) | (simp [*]; done), by repeat (first | exact Drawn0.refl _ | apply Drawn0.step)⟩
        ·rw [if_neg c8] at H
         have c8b0 : (!(((rd_T48 l0 x13_1).f0) == ((rd_T48 l1 x13_1).f0)) || (!(((rd_T48 l0 x13_1).f1) == ((rd_T48 l1 x13_1).f1)))) = false := by simpa using c8
         clear c8
         have H' := M_ H
         clear H
         have p397 : 0 ≤ (x13_1 : Int) := of_decide_eq_true (by first | (with_reducible assumption) | assumption)
         have q397 : x13_1 < (l0.length : Int) := of_decide_eq_true (by first | (with_reducible assumption) | assumption)
         obtain ⟨ad397, e397, hx397_0, hx397_1⟩ := at_T48 HR0.out x13_1 p397 q397
         cases e397
         replace p397 := eq_true p397
         replace q397 := eq_true q397
         have p398 : 0 ≤ (x13_1 : Int) := of_decide_eq_true (by first | (with_reducible assumption) | assumption)
         have q398 : x13_1 < (l1.length : Int) := of_decide_eq_true (by first | (with_reducible assumption) | assumption)
         obtain ⟨ad398, e398, hx398_0, hx398_1⟩ := at_T48 HR1.out x13_1 p398 q398
         cases e398
         replace p398 := eq_true p398
         replace q398 := eq_true q398
         go_wp2
         repeat (go_quiet (fail); try go_wp2)
         go_roundg k1
         case measure => have := HK1.out; omega
         case rel => exact ⟨(wrap64 (x13_1 + 1)), (by first | rfl | (simp; done) | (simp [*]; done)), H', ⟨by have := HK1.out; omega⟩, by repeat (first | exact Drawn0.refl _ | apply Drawn0.step)⟩
       ·rw [if_neg c7] at H
        exact absurd H (by simp)
      ·rw [if_neg c6] at H
       exact absurd H (by simp)
     ·rw [if_neg c5] at H
      exact absurd H (by simp)
    ·rw [if_neg c4] at H
     have c4b0 : decide (x13_1 < (l0.length : Int)) = false := decide_eq_false c4
     clear c4
     obtain rfl := Option.some.inj H
     go_wp2
     repeat (go_quiet (fail); try go_wp2)
     go_ret
     exact ⟨by first | rfl | (simp; done) | (simp [*]; done), by repeat (first | exact Drawn0.refl _ | apply Drawn0.step)⟩
 ·rw [if_neg c3] at H
  have c3b0 : ((l0.length : Int) == (l1.length : Int)) = false := beq_eq_false_iff_ne.mpr c3
  have c3b1 : ((l0.length : Int) != (l1.length : Int)) = true := bne_iff_ne.mpr c3
  have c3b2 : (l0.length == l1.length) = false := by first | simpa using c3 | (simp at c3 ⊢; omega)
  obtain rfl := Option.some.inj H
  go_enter Try.func64, Try.ntmps64
  go_wp2
  repeat (go_quiet (fail); try go_wp2)
  go_ret
  exact ⟨by first | rfl | (simp; done) | (simp [*]; done), by repeat (first | exact Drawn0.refl _ | apply Drawn0.step)⟩

end Go.Proofs.Ytjgpngeifgcidaa.PFnTempos
