-- by wip/xprint.py, over the kit's printer
import Derived.Test.YtjgpngeifgcidaaPFnExactPlayablePartx0
import Derived.Test.YtjgpngeifgcidaaPFnExactPlayablePartx1
import Derived.Test.YtjgpngeifgcidaaPFnExactPlayablePartx2
import Derived.Test.YtjgpngeifgcidaaPFnExactPlayablePartx6
import Derived.Test.YtjgpngeifgcidaaPFnExactPlayablePartx8
import Derived.Test.YtjgpngeifgcidaaPFnExactPlayablePartx9
namespace Go.Proofs.Ytjgpngeifgcidaa.PFnExactPlayablePart
open Go.RowKit Go.Proofs.YtjgpngeifgcidaaW.PrintWords Go.Proofs.YtjgpngeifgcidaaW.PrintLast Go.Proofs.YtjgpngeifgcidaaW.PrintMore
attribute [local go_sem] max2_int min2_int max_two min_two max_three min_three max_four min_four   -- for this text's walks alone
set_option linter.unusedVariables false
set_option linter.unusedSimpArgs false
private abbrev M_ {p : Prop} (h : p) : Aside0 p := Aside0.mk h
private abbrev la_ := @List.setIfInBounds_toArray
private abbrev lb_ := @List.set_cons_zero
private abbrev lc_ := @List.set_cons_succ
private abbrev bn_ := @pw_below_drewN
private abbrev b1_ := @below_drew1
private abbrev ba_ := @below_alloc
private abbrev bs_ := @below_set
private abbrev kn_ := @blk_drewN
private abbrev ka_ := @blk_alloc
private abbrev kd_ := @blk_drew
private abbrev rn_ := @Kd.R_drewN
private abbrev ra_ := @Kd.R_alloc
private abbrev rd_ := @Kd.R_drew
private abbrev rb_ := @Kd.R_below
private abbrev rm_ := @Kd.R_mono
private abbrev rt_ := @Kd.R_types

mutual
def laws_FnExactPlayablePart.j0 : Nat → List (S94) → List (S92) → Bool → List (S92) → List (S92) → Bool → Bool → List Int → Int → List Int → Int → Option (Bool)
 | 0, _, _, _, _, _, _, _, _, _, _, _ => none
 | k + 1, x1, x6, x7, x9, x10, x11, x53, x241000, x241001, x259000, x259001 => if x53 = true then (some false) else ((laws_toInstrument.f k x241000 x241001).bind fun bt267 => ((laws_eqInstrument.f k x259000 x259001 bt267.1 bt267.2).bind fun t271 => (if t271 = true then ((laws_toNoteS.f k x1).bind fun t272 => ((laws_eqNoteS.f k x9 t272).bind fun t275 => (if t275 = true then ((laws_markInstrument.f k x259000 x259001 1).bind fun bt276 => ((laws_markNoteS.f k x9 bt276.1).bind fun bt278 => (if bt278.1 < 0 then (laws_FnExactPlayablePart.j1 k x1 x6 x7 x10 true x241000 x241001) else ((laws_eqNoteS.f k x10 x6).bind fun t280 => (if t280 = true then (laws_FnExactPlayablePart.j1 k x1 x6 x7 x10 (x11 != x7) x241000 x241001) else (laws_FnExactPlayablePart.j1 k x1 x6 x7 x10 true x241000 x241001)))))) else (some false)))) else (some false))))
def laws_FnExactPlayablePart.j1 : Nat → List (S94) → List (S92) → Bool → List (S92) → Bool → List Int → Int → Option (Bool)
 | 0, _, _, _, _, _, _, _ => none
 | k + 1, x1, x6, x7, x10, x82, x241000, x241001 => if x82 = true then (some false) else ((laws_markNoteS.f k x10 1).bind fun bt281 => ((laws_heldNoteS.f k bt281.2 1).bind fun t283 => (if t283 < 0 then (some false) else (if t283 = bt281.1 then ((laws_toInstrument.f k x241000 x241001).bind fun bt284 => ((laws_toNoteS.f k x1).bind fun t288 => ((impl_PlayablePart.f k bt284.1 bt284.2 t288).bind fun bt291 => ((laws_eqNoteS.f k bt291.1 x6).bind fun t295 => (if t295 = true then (laws_FnExactPlayablePart.j2 k bt281.2 bt281.1 (bt291.2 != x7)) else (laws_FnExactPlayablePart.j2 k bt281.2 bt281.1 true)))))) else (some false)))))
def laws_FnExactPlayablePart.j2 : Nat → List (S92) → Int → Bool → Option (Bool)
 | 0, _, _, _ => none
 | k + 1, x10, x13, x110 => if x110 = true then (some false) else ((laws_heldNoteS.f k x10 1).bind fun t296 => (if t296 < 0 then (some false) else (if t296 = x13 then (some true) else (some false))))
end
def laws_FnExactPlayablePart.f (k : Nat) (l0_0 : List Int) (a0_1 : Int) (l1 : List (S94)) : Option (Bool) := (laws_szInstrument.f l0_0 a0_1 1048576).bind fun t241 => (if t241 < 0 then (some true) else ((laws_szNoteS.f l1 t241).bind fun t242 => (if t242 < 0 then (some true) else ((laws_toInstrument.f k l0_0 a0_1).bind fun bt243 => ((laws_toNoteS.f k l1).bind fun t247 => ((spec_PlayablePart.f k bt243.1 bt243.2 t247).bind fun bt250 => ((laws_toInstrument.f k l0_0 a0_1).bind fun bt254 => ((laws_toNoteS.f k l1).bind fun t259 => ((impl_PlayablePart.f k bt254.1 bt254.2 t259).bind fun bt262 => ((laws_eqNoteS.f k bt262.1 bt250.1).bind fun t266 => (if t266 = true then (laws_FnExactPlayablePart.j0 k l1 bt250.1 bt250.2 t259 bt262.1 bt262.2 (bt262.2 != bt250.2) l0_0 a0_1 bt254.1 bt254.2) else (laws_FnExactPlayablePart.j0 k l1 bt250.1 bt250.2 t259 bt262.1 bt262.2 true l0_0 a0_1 bt254.1 bt254.2))))))))))))
theorem laws_FnExactPlayablePart.mono_l : ∀ k, (∀ y0 y1 y2 y3 y4 y5 y6 y7 y8 y9 y10, LeO (laws_FnExactPlayablePart.j0 k y0 y1 y2 y3 y4 y5 y6 y7 y8 y9 y10) (laws_FnExactPlayablePart.j0 (k + 1) y0 y1 y2 y3 y4 y5 y6 y7 y8 y9 y10)) ∧ (∀ y0 y1 y2 y3 y4 y5 y6, LeO (laws_FnExactPlayablePart.j1 k y0 y1 y2 y3 y4 y5 y6) (laws_FnExactPlayablePart.j1 (k + 1) y0 y1 y2 y3 y4 y5 y6)) ∧ (∀ y0 y1 y2, LeO (laws_FnExactPlayablePart.j2 k y0 y1 y2) (laws_FnExactPlayablePart.j2 (k + 1) y0 y1 y2))
 | 0 => ⟨fun _ _ _ _ _ _ _ _ _ _ _ r h => by simp [laws_FnExactPlayablePart.j0] at h, fun _ _ _ _ _ _ _ r h => by simp [laws_FnExactPlayablePart.j1] at h, fun _ _ _ r h => by simp [laws_FnExactPlayablePart.j2] at h⟩
 | k + 1 => by
  obtain ⟨ih0, ih1, ih2⟩ := laws_FnExactPlayablePart.mono_l k
  refine ⟨?_, ?_, ?_⟩
  ·intro y0 y1 y2 y3 y4 y5 y6 y7 y8 y9 y10
   unfold laws_FnExactPlayablePart.j0
   repeat' first
   | (with_reducible exact ih0 _ _ _ _ _ _ _ _ _ _ _)
   | (with_reducible exact ih1 _ _ _ _ _ _ _)
   | (with_reducible exact ih2 _ _ _)
   | (with_reducible exact impl_PlayablePart.mono _ _ _ _)
   | (with_reducible exact laws_eqInstrument.mono _ _ _ _ _)
   | (with_reducible exact laws_eqNoteS.mono _ _ _)
   | (with_reducible exact laws_heldNoteS.mono _ _ _)
   | (with_reducible exact laws_markInstrument.mono _ _ _ _)
   | (with_reducible exact laws_markNoteS.mono _ _ _)
   | (with_reducible exact laws_toInstrument.mono _ _ _)
   | (with_reducible exact laws_toNoteS.mono _ _)
   | (with_reducible exact spec_PlayablePart.mono _ _ _ _)
   | (with_reducible exact LeO.refl _)
   | (with_reducible exact LeO.none _)
   | (with_reducible refine LeO.ite ?_ ?_)
   | (with_reducible refine LeO.bind ?_ (fun _ => ?_))
   | exact ih0 _ _ _ _ _ _ _ _ _ _ _
   | exact ih1 _ _ _ _ _ _ _
   | exact ih2 _ _ _
   | exact impl_PlayablePart.mono _ _ _ _
   | exact laws_eqInstrument.mono _ _ _ _ _
   | exact laws_eqNoteS.mono _ _ _
   | exact laws_heldNoteS.mono _ _ _
   | exact laws_markInstrument.mono _ _ _ _
   | exact laws_markNoteS.mono _ _ _
   | exact laws_toInstrument.mono _ _ _
   | exact laws_toNoteS.mono _ _
   | exact spec_PlayablePart.mono _ _ _ _
   | exact LeO.none _
   | refine LeO.ite ?_ ?_
   | refine LeO.bind ?_ (fun _ => ?_)
  ·intro y0 y1 y2 y3 y4 y5 y6
   unfold laws_FnExactPlayablePart.j1
   repeat' first
   | (with_reducible exact ih0 _ _ _ _ _ _ _ _ _ _ _)
   | (with_reducible exact ih1 _ _ _ _ _ _ _)
   | (with_reducible exact ih2 _ _ _)
   | (with_reducible exact impl_PlayablePart.mono _ _ _ _)
   | (with_reducible exact laws_eqInstrument.mono _ _ _ _ _)
   | (with_reducible exact laws_eqNoteS.mono _ _ _)
   | (with_reducible exact laws_heldNoteS.mono _ _ _)
   | (with_reducible exact laws_markInstrument.mono _ _ _ _)
   | (with_reducible exact laws_markNoteS.mono _ _ _)
   | (with_reducible exact laws_toInstrument.mono _ _ _)
   | (with_reducible exact laws_toNoteS.mono _ _)
   | (with_reducible exact spec_PlayablePart.mono _ _ _ _)
   | (with_reducible exact LeO.refl _)
   | (with_reducible exact LeO.none _)
   | (with_reducible refine LeO.ite ?_ ?_)
   | (with_reducible refine LeO.bind ?_ (fun _ => ?_))
   | exact ih0 _ _ _ _ _ _ _ _ _ _ _
   | exact ih1 _ _ _ _ _ _ _
   | exact ih2 _ _ _
   | exact impl_PlayablePart.mono _ _ _ _
   | exact laws_eqInstrument.mono _ _ _ _ _
   | exact laws_eqNoteS.mono _ _ _
   | exact laws_heldNoteS.mono _ _ _
   | exact laws_markInstrument.mono _ _ _ _
   | exact laws_markNoteS.mono _ _ _
   | exact laws_toInstrument.mono _ _ _
   | exact laws_toNoteS.mono _ _
   | exact spec_PlayablePart.mono _ _ _ _
   | exact LeO.none _
   | refine LeO.ite ?_ ?_
   | refine LeO.bind ?_ (fun _ => ?_)
  ·intro y0 y1 y2
   unfold laws_FnExactPlayablePart.j2
   repeat' first
   | (with_reducible exact ih0 _ _ _ _ _ _ _ _ _ _ _)
   | (with_reducible exact ih1 _ _ _ _ _ _ _)
   | (with_reducible exact ih2 _ _ _)
   | (with_reducible exact impl_PlayablePart.mono _ _ _ _)
   | (with_reducible exact laws_eqInstrument.mono _ _ _ _ _)
   | (with_reducible exact laws_eqNoteS.mono _ _ _)
   | (with_reducible exact laws_heldNoteS.mono _ _ _)
   | (with_reducible exact laws_markInstrument.mono _ _ _ _)
   | (with_reducible exact laws_markNoteS.mono _ _ _)
   | (with_reducible exact laws_toInstrument.mono _ _ _)
   | (with_reducible exact laws_toNoteS.mono _ _)
   | (with_reducible exact spec_PlayablePart.mono _ _ _ _)
   | (with_reducible exact LeO.refl _)
   | (with_reducible exact LeO.none _)
   | (with_reducible refine LeO.ite ?_ ?_)
   | (with_reducible refine LeO.bind ?_ (fun _ => ?_))
   | exact ih0 _ _ _ _ _ _ _ _ _ _ _
   | exact ih1 _ _ _ _ _ _ _
   | exact ih2 _ _ _
   | exact impl_PlayablePart.mono _ _ _ _
   | exact laws_eqInstrument.mono _ _ _ _ _
   | exact laws_eqNoteS.mono _ _ _
   | exact laws_heldNoteS.mono _ _ _
   | exact laws_markInstrument.mono _ _ _ _
   | exact laws_markNoteS.mono _ _ _
   | exact laws_toInstrument.mono _ _ _
   | exact laws_toNoteS.mono _ _
   | exact spec_PlayablePart.mono _ _ _ _
   | exact LeO.none _
   | refine LeO.ite ?_ ?_
   | refine LeO.bind ?_ (fun _ => ?_)
theorem laws_FnExactPlayablePart.mono : ∀ a0 a1 a2 k, LeO (laws_FnExactPlayablePart.f k a0 a1 a2) (laws_FnExactPlayablePart.f (k + 1) a0 a1 a2) := by
 intro a0 a1 a2 k
 obtain ⟨ih0, ih1, ih2⟩ := laws_FnExactPlayablePart.mono_l k
 unfold laws_FnExactPlayablePart.f
 repeat' first
   | (with_reducible exact ih0 _ _ _ _ _ _ _ _ _ _ _)
   | (with_reducible exact ih1 _ _ _ _ _ _ _)
   | (with_reducible exact ih2 _ _ _)
   | (with_reducible exact impl_PlayablePart.mono _ _ _ _)
   | (with_reducible exact laws_eqInstrument.mono _ _ _ _ _)
   | (with_reducible exact laws_eqNoteS.mono _ _ _)
   | (with_reducible exact laws_heldNoteS.mono _ _ _)
   | (with_reducible exact laws_markInstrument.mono _ _ _ _)
   | (with_reducible exact laws_markNoteS.mono _ _ _)
   | (with_reducible exact laws_toInstrument.mono _ _ _)
   | (with_reducible exact laws_toNoteS.mono _ _)
   | (with_reducible exact spec_PlayablePart.mono _ _ _ _)
   | (with_reducible exact LeO.refl _)
   | (with_reducible exact LeO.none _)
   | (with_reducible refine LeO.ite ?_ ?_)
   | (with_reducible refine LeO.bind ?_ (fun _ => ?_))
   | exact ih0 _ _ _ _ _ _ _ _ _ _ _
   | exact ih1 _ _ _ _ _ _ _
   | exact ih2 _ _ _
   | exact impl_PlayablePart.mono _ _ _ _
   | exact laws_eqInstrument.mono _ _ _ _ _
   | exact laws_eqNoteS.mono _ _ _
   | exact laws_heldNoteS.mono _ _ _
   | exact laws_markInstrument.mono _ _ _ _
   | exact laws_markNoteS.mono _ _ _
   | exact laws_toInstrument.mono _ _ _
   | exact laws_toNoteS.mono _ _
   | exact spec_PlayablePart.mono _ _ _ _
   | exact LeO.none _
   | refine LeO.ite ?_ ?_
   | refine LeO.bind ?_ (fun _ => ?_)
set_option maxHeartbeats 8000000 in
set_option maxRecDepth 100000 in
theorem laws_FnExactPlayablePart.calls (k : Nat) (A0_0 : Option Addr) (c0_0 : Nat) (l0_0 : List Int) (a0_1 : Int) (A1 : Option Addr) (c1 : Nat) (l1 : List (S94)) (r : Bool) (w : World) (hr0_0 : Kd.C (Kd.int .i64) w A0_0 l0_0.length l0_0) (hc0_0 : l0_0.length ≤ c0_0) (hr1 : Kd.C k94 w A1 l1.length l1) (hc1 : l1.length ≤ c1) (h : laws_FnExactPlayablePart.f k l0_0 a0_1 l1 = some r) :
  Calls Try.prog 7 #[.agg #[.slice A0_0 l0_0.length c0_0, .int .i64 a0_1], .slice A1 l1.length c1] w fun e w' => e = .returned (.bool r) ∧ Below w.heap.size w w' := by
 have hu55 := Try.underlying55
 have hu59 := Try.underlying59
 have HR0_0 := M_ hr0_0
 have HC0_0 := M_ hc0_0
 clear hr0_0 hc0_0
 have HR1 := M_ hr1
 have HC1 := M_ hc1
 clear hr1 hc1
 have HB := M_ (Below.refl w.heap.size w)
 have H : ((laws_szInstrument.f l0_0 a0_1 1048576).bind fun t241 => (if t241 < 0 then (some true) else ((laws_szNoteS.f l1 t241).bind fun t242 => (if t242 < 0 then (some true) else ((laws_toInstrument.f k l0_0 a0_1).bind fun bt243 => ((laws_toNoteS.f k l1).bind fun t247 => ((spec_PlayablePart.f k bt243.1 bt243.2 t247).bind fun bt250 => ((laws_toInstrument.f k l0_0 a0_1).bind fun bt254 => ((laws_toNoteS.f k l1).bind fun t259 => ((impl_PlayablePart.f k bt254.1 bt254.2 t259).bind fun bt262 => ((laws_eqNoteS.f k bt262.1 bt250.1).bind fun t266 => (if t266 = true then (laws_FnExactPlayablePart.j0 k l1 bt250.1 bt250.2 t259 bt262.1 bt262.2 (bt262.2 != bt250.2) l0_0 a0_1 bt254.1 bt254.2) else (laws_FnExactPlayablePart.j0 k l1 bt250.1 bt250.2 t259 bt262.1 bt262.2 true l0_0 a0_1 bt254.1 bt254.2))))))))))))) = some r := h
 clear h
 replace H := Option.bind_eq_some_iff.mp H
 obtain ⟨t241, A30, H⟩ := H
 replace H : (if t241 < 0 then (some true) else ((laws_szNoteS.f l1 t241).bind fun t242 => (if t242 < 0 then (some true) else ((laws_toInstrument.f k l0_0 a0_1).bind fun bt243 => ((laws_toNoteS.f k l1).bind fun t247 => ((spec_PlayablePart.f k bt243.1 bt243.2 t247).bind fun bt250 => ((laws_toInstrument.f k l0_0 a0_1).bind fun bt254 => ((laws_toNoteS.f k l1).bind fun t259 => ((impl_PlayablePart.f k bt254.1 bt254.2 t259).bind fun bt262 => ((laws_eqNoteS.f k bt262.1 bt250.1).bind fun t266 => (if t266 = true then (laws_FnExactPlayablePart.j0 k l1 bt250.1 bt250.2 t259 bt262.1 bt262.2 (bt262.2 != bt250.2) l0_0 a0_1 bt254.1 bt254.2) else (laws_FnExactPlayablePart.j0 k l1 bt250.1 bt250.2 t259 bt262.1 bt262.2 true l0_0 a0_1 bt254.1 bt254.2)))))))))))) = some r := H
 have A3 := M_ A30
 clear A30
 by_cases c4 : t241 < 0
 ·rw [if_pos c4] at H
  have c4b0 : decide (t241 < 0) = true := decide_eq_true c4
  clear c4
  obtain rfl := Option.some.inj H
  go_enter Try.func7, Try.ntmps7
  go_wp2_with (first | ((with_reducible refine gate_dst (N := 2) rfl ?_); refine box_event ?hg (N := 2) ?hd (cs := #[.slice A0_0 l0_0.length c0_0, .int .i64 a0_1]) (t := 55) ?hr ?_; (case hd => rfl); (case hg => rfl); (case hr => first | (go_simp; done) | (go_simp; rfl)); intro gb240 hg w5 hbox hb; have n0_ := M_ (below_step (by repeat (first | (with_reducible first | exact HB.out | apply ba_ | apply bn_ | apply b1_) | exact HB.out)) hb); have n1_ := M_ (hbox); have n2_ := M_ ((by rw [hg]; exact (below_size (by repeat (first | (with_reducible first | exact HB.out | apply ba_ | apply bn_ | apply b1_) | exact HB.out))) : w.heap.size ≤ gb240)); have n3_ := M_ ((by rw [hg]; exact (below_size (by repeat (first | (with_reducible first | exact HB.out | apply ba_ | apply bn_ | apply b1_) | exact HB.out))) : w.heap.size ≤ gb240)); clear HB; have HB := n0_; have BK240 := n1_; have GW240 := n2_; have GE240 := n3_; clear n0_ n1_ n2_ n3_; clear hb hbox hg; have hcz6_0 : w5.cell? ⟨gb240, 0, none⟩ = some (.slice A0_0 l0_0.length c0_0) := (blk_cell BK240.out 0).trans rfl; have hcz6_1 : w5.cell? ⟨gb240, 1, none⟩ = some (.int .i64 a0_1) := (blk_cell BK240.out 1).trans rfl; have hfz6_0 := blk_frozen BK240.out 0; have hfz6_1 := blk_frozen BK240.out 1) | ((with_reducible refine gate_callee (f := 35) rfl ?_); refine goesL_ (some 19) rfl rfl Try.func35 (by kernel_rfl) rfl #[.agg #[.slice A0_0 l0_0.length c0_0, .int .i64 a0_1], .int .i64 1048576] rfl (by (try simp only [List.map_toArray, List.map_cons, List.map_nil]); first | done | rfl | (simp only [List.length_drop, List.length_take]; rfl)) ?_; (with_reducible refine (laws_szInstrument.calls _ _ l0_0 a0_1 1048576 t241 _ ?side1 ?side2 A3.out).mono ?_); (case side1 => repeat (first | exact (Kd.C_below HR0_0.out HB.out) | (with_reducible refine Kd.C_alloc ?_ _) | (with_reducible refine Kd.C_drewN ?_ _) | (with_reducible refine Kd.C_drew ?_))); (case side2 => exact HC0_0.out); rintro e w7 ⟨rfl, hb⟩; refine ⟨_, rfl, ?_⟩; have n0_ := M_ (blk_below (g := gb240) (o := .cells #[.slice A0_0 l0_0.length c0_0, .int .i64 a0_1] 55 (0, 0)) (by (with_reducible repeat (first | refine kn_ ?_ _ | refine kd_ ?_ | refine ka_ ?_ _)); exact BK240.out) hb); have n1_ := M_ (below_step (by repeat (first | (with_reducible first | exact HB.out | apply ba_ | apply bn_ | apply b1_ | refine bs_ ?_ GE240.out) | exact HB.out)) hb); clear BK240; clear HB; have BK240 := n0_; have HB := n1_; clear n0_ n1_; (try clear hb); (try clear hb2); (try clear hk); (try clear hi)))
  go_ret
  exact ⟨by first | rfl | (simp [errW_none, errW_some] <;> rfl) | (simp [*, errW_none, errW_some] <;> rfl), by repeat (first | (with_reducible first | exact HB.out | apply ba_ | apply bn_ | apply b1_ | refine bs_ ?_ GE240.out) | exact HB.out)⟩
 ·rw [if_neg c4] at H
  have c4b0 : decide (t241 < 0) = false := decide_eq_false c4
  clear c4
  replace H := Option.bind_eq_some_iff.mp H
  obtain ⟨t242, A80, H⟩ := H
  replace H : (if t242 < 0 then (some true) else ((laws_toInstrument.f k l0_0 a0_1).bind fun bt243 => ((laws_toNoteS.f k l1).bind fun t247 => ((spec_PlayablePart.f k bt243.1 bt243.2 t247).bind fun bt250 => ((laws_toInstrument.f k l0_0 a0_1).bind fun bt254 => ((laws_toNoteS.f k l1).bind fun t259 => ((impl_PlayablePart.f k bt254.1 bt254.2 t259).bind fun bt262 => ((laws_eqNoteS.f k bt262.1 bt250.1).bind fun t266 => (if t266 = true then (laws_FnExactPlayablePart.j0 k l1 bt250.1 bt250.2 t259 bt262.1 bt262.2 (bt262.2 != bt250.2) l0_0 a0_1 bt254.1 bt254.2) else (laws_FnExactPlayablePart.j0 k l1 bt250.1 bt250.2 t259 bt262.1 bt262.2 true l0_0 a0_1 bt254.1 bt254.2)))))))))) = some r := H
  have A8 := M_ A80
  clear A80
  by_cases c9 : t242 < 0
  ·rw [if_pos c9] at H
   have c9b0 : decide (t242 < 0) = true := decide_eq_true c9
   clear c9
   obtain rfl := Option.some.inj H
   go_enter Try.func7, Try.ntmps7
   go_wp2_with (first | ((with_reducible refine gate_dst (N := 2) rfl ?_); refine box_event ?hg (N := 2) ?hd (cs := #[.slice A0_0 l0_0.length c0_0, .int .i64 a0_1]) (t := 55) ?hr ?_; (case hd => rfl); (case hg => rfl); (case hr => first | (go_simp; done) | (go_simp; rfl)); intro gb240 hg w10 hbox hb; have n0_ := M_ (below_step (by repeat (first | (with_reducible first | exact HB.out | apply ba_ | apply bn_ | apply b1_) | exact HB.out)) hb); have n1_ := M_ (hbox); have n2_ := M_ ((by rw [hg]; exact (below_size (by repeat (first | (with_reducible first | exact HB.out | apply ba_ | apply bn_ | apply b1_) | exact HB.out))) : w.heap.size ≤ gb240)); have n3_ := M_ ((by rw [hg]; exact (below_size (by repeat (first | (with_reducible first | exact HB.out | apply ba_ | apply bn_ | apply b1_) | exact HB.out))) : w.heap.size ≤ gb240)); clear HB; have HB := n0_; have BK240 := n1_; have GW240 := n2_; have GE240 := n3_; clear n0_ n1_ n2_ n3_; clear hb hbox hg; have hcz11_0 : w10.cell? ⟨gb240, 0, none⟩ = some (.slice A0_0 l0_0.length c0_0) := (blk_cell BK240.out 0).trans rfl; have hcz11_1 : w10.cell? ⟨gb240, 1, none⟩ = some (.int .i64 a0_1) := (blk_cell BK240.out 1).trans rfl; have hfz11_0 := blk_frozen BK240.out 0; have hfz11_1 := blk_frozen BK240.out 1) | ((with_reducible refine gate_callee (f := 35) rfl ?_); refine goesL_ (some 19) rfl rfl Try.func35 (by kernel_rfl) rfl #[.agg #[.slice A0_0 l0_0.length c0_0, .int .i64 a0_1], .int .i64 1048576] rfl (by (try simp only [List.map_toArray, List.map_cons, List.map_nil]); first | done | rfl | (simp only [List.length_drop, List.length_take]; rfl)) ?_; (with_reducible refine (laws_szInstrument.calls _ _ l0_0 a0_1 1048576 t241 _ ?side1 ?side2 A3.out).mono ?_); (case side1 => repeat (first | exact (Kd.C_below HR0_0.out HB.out) | (with_reducible refine Kd.C_alloc ?_ _) | (with_reducible refine Kd.C_drewN ?_ _) | (with_reducible refine Kd.C_drew ?_))); (case side2 => exact HC0_0.out); rintro e w12 ⟨rfl, hb⟩; refine ⟨_, rfl, ?_⟩; have n0_ := M_ (blk_below (g := gb240) (o := .cells #[.slice A0_0 l0_0.length c0_0, .int .i64 a0_1] 55 (0, 0)) (by (with_reducible repeat (first | refine kn_ ?_ _ | refine kd_ ?_ | refine ka_ ?_ _)); exact BK240.out) hb); have n1_ := M_ (below_step (by repeat (first | (with_reducible first | exact HB.out | apply ba_ | apply bn_ | apply b1_ | refine bs_ ?_ GE240.out) | exact HB.out)) hb); clear BK240; clear HB; have BK240 := n0_; have HB := n1_; clear n0_ n1_; (try clear hb); (try clear hb2); (try clear hk); (try clear hi)) | ((with_reducible refine gate_callee (f := 13) rfl ?_); refine goesL_ (some 24) rfl rfl Try.func13 (by kernel_rfl) rfl #[.slice A1 l1.length c1, .int .i64 t241] rfl (by (try simp only [List.map_toArray, List.map_cons, List.map_nil]); first | done | rfl | (simp only [List.length_drop, List.length_take]; rfl)) ?_; (with_reducible refine (laws_szNoteS.calls _ _ l1 t241 t242 _ ?side1 ?side2 A8.out).mono ?_); (case side1 => repeat (first | exact (Kd.C_below HR1.out HB.out) | (with_reducible refine Kd.C_alloc ?_ _) | (with_reducible refine Kd.C_drewN ?_ _) | (with_reducible refine Kd.C_drew ?_))); (case side2 => exact HC1.out); rintro e w' ⟨rfl, ⟨nd, rfl⟩⟩; refine ⟨_, rfl, ?_⟩))
   go_ret
   exact ⟨by first | rfl | (simp [errW_none, errW_some] <;> rfl) | (simp [*, errW_none, errW_some] <;> rfl), by repeat (first | (with_reducible first | exact HB.out | apply ba_ | apply bn_ | apply b1_ | refine bs_ ?_ GE240.out) | exact HB.out)⟩
  ·rw [if_neg c9] at H
   have c9b0 : decide (t242 < 0) = false := decide_eq_false c9
   clear c9
   replace H := Option.bind_eq_some_iff.mp H
   obtain ⟨⟨t243, t246⟩, A130, H⟩ := H
   replace H : ((laws_toNoteS.f k l1).bind fun t247 => ((spec_PlayablePart.f k t243 t246 t247).bind fun bt250 => ((laws_toInstrument.f k l0_0 a0_1).bind fun bt254 => ((laws_toNoteS.f k l1).bind fun t259 => ((impl_PlayablePart.f k bt254.1 bt254.2 t259).bind fun bt262 => ((laws_eqNoteS.f k bt262.1 bt250.1).bind fun t266 => (if t266 = true then (laws_FnExactPlayablePart.j0 k l1 bt250.1 bt250.2 t259 bt262.1 bt262.2 (bt262.2 != bt250.2) l0_0 a0_1 bt254.1 bt254.2) else (laws_FnExactPlayablePart.j0 k l1 bt250.1 bt250.2 t259 bt262.1 bt262.2 true l0_0 a0_1 bt254.1 bt254.2)))))))) = some r := H
   have A13 := M_ A130
   clear A130
   replace H := Option.bind_eq_some_iff.mp H
   obtain ⟨t247, A140, H⟩ := H
   replace H : ((spec_PlayablePart.f k t243 t246 t247).bind fun bt250 => ((laws_toInstrument.f k l0_0 a0_1).bind fun bt254 => ((laws_toNoteS.f k l1).bind fun t259 => ((impl_PlayablePart.f k bt254.1 bt254.2 t259).bind fun bt262 => ((laws_eqNoteS.f k bt262.1 bt250.1).bind fun t266 => (if t266 = true then (laws_FnExactPlayablePart.j0 k l1 bt250.1 bt250.2 t259 bt262.1 bt262.2 (bt262.2 != bt250.2) l0_0 a0_1 bt254.1 bt254.2) else (laws_FnExactPlayablePart.j0 k l1 bt250.1 bt250.2 t259 bt262.1 bt262.2 true l0_0 a0_1 bt254.1 bt254.2))))))) = some r := H
   have A14 := M_ A140
   clear A140
   replace H := Option.bind_eq_some_iff.mp H
   obtain ⟨⟨t250, t253⟩, A150, H⟩ := H
   replace H : ((laws_toInstrument.f k l0_0 a0_1).bind fun bt254 => ((laws_toNoteS.f k l1).bind fun t259 => ((impl_PlayablePart.f k bt254.1 bt254.2 t259).bind fun bt262 => ((laws_eqNoteS.f k bt262.1 t250).bind fun t266 => (if t266 = true then (laws_FnExactPlayablePart.j0 k l1 t250 t253 t259 bt262.1 bt262.2 (bt262.2 != t253) l0_0 a0_1 bt254.1 bt254.2) else (laws_FnExactPlayablePart.j0 k l1 t250 t253 t259 bt262.1 bt262.2 true l0_0 a0_1 bt254.1 bt254.2)))))) = some r := H
   have A15 := M_ A150
   clear A150
   replace H := Option.bind_eq_some_iff.mp H
   obtain ⟨⟨t254, t257⟩, A160, H⟩ := H
   replace H : ((laws_toNoteS.f k l1).bind fun t259 => ((impl_PlayablePart.f k t254 t257 t259).bind fun bt262 => ((laws_eqNoteS.f k bt262.1 t250).bind fun t266 => (if t266 = true then (laws_FnExactPlayablePart.j0 k l1 t250 t253 t259 bt262.1 bt262.2 (bt262.2 != t253) l0_0 a0_1 t254 t257) else (laws_FnExactPlayablePart.j0 k l1 t250 t253 t259 bt262.1 bt262.2 true l0_0 a0_1 t254 t257))))) = some r := H
   have A16 := M_ A160
   clear A160
   replace H := Option.bind_eq_some_iff.mp H
   obtain ⟨t259, A170, H⟩ := H
   replace H : ((impl_PlayablePart.f k t254 t257 t259).bind fun bt262 => ((laws_eqNoteS.f k bt262.1 t250).bind fun t266 => (if t266 = true then (laws_FnExactPlayablePart.j0 k l1 t250 t253 t259 bt262.1 bt262.2 (bt262.2 != t253) l0_0 a0_1 t254 t257) else (laws_FnExactPlayablePart.j0 k l1 t250 t253 t259 bt262.1 bt262.2 true l0_0 a0_1 t254 t257)))) = some r := H
   have A17 := M_ A170
   clear A170
   replace H := Option.bind_eq_some_iff.mp H
   obtain ⟨⟨t262, t265⟩, A180, H⟩ := H
   replace H : ((laws_eqNoteS.f k t262 t250).bind fun t266 => (if t266 = true then (laws_FnExactPlayablePart.j0 k l1 t250 t253 t259 t262 t265 (t265 != t253) l0_0 a0_1 t254 t257) else (laws_FnExactPlayablePart.j0 k l1 t250 t253 t259 t262 t265 true l0_0 a0_1 t254 t257))) = some r := H
   have A18 := M_ A180
   clear A180
   have HC19 := M_ H
   clear H
   go_enter Try.func7, Try.ntmps7
   go_upto_region 12 with (first | ((with_reducible refine gate_dst (N := 2) rfl ?_); refine box_event ?hg (N := 2) ?hd (cs := #[.slice A0_0 l0_0.length c0_0, .int .i64 a0_1]) (t := 55) ?hr ?_; (case hd => rfl); (case hg => rfl); (case hr => first | (go_simp; done) | (go_simp; rfl)); intro gb240 hg w20 hbox hb; have n0_ := M_ (below_step (by repeat (first | (with_reducible first | exact HB.out | apply ba_ | apply bn_ | apply b1_) | exact HB.out)) hb); have n1_ := M_ (hbox); have n2_ := M_ ((by rw [hg]; exact (below_size (by repeat (first | (with_reducible first | exact HB.out | apply ba_ | apply bn_ | apply b1_) | exact HB.out))) : w.heap.size ≤ gb240)); have n3_ := M_ ((by rw [hg]; exact (below_size (by repeat (first | (with_reducible first | exact HB.out | apply ba_ | apply bn_ | apply b1_) | exact HB.out))) : w.heap.size ≤ gb240)); clear HB; have HB := n0_; have BK240 := n1_; have GW240 := n2_; have GE240 := n3_; clear n0_ n1_ n2_ n3_; clear hb hbox hg; have hcz21_0 : w20.cell? ⟨gb240, 0, none⟩ = some (.slice A0_0 l0_0.length c0_0) := (blk_cell BK240.out 0).trans rfl; have hcz21_1 : w20.cell? ⟨gb240, 1, none⟩ = some (.int .i64 a0_1) := (blk_cell BK240.out 1).trans rfl; have hfz21_0 := blk_frozen BK240.out 0; have hfz21_1 := blk_frozen BK240.out 1) | ((with_reducible refine gate_callee (f := 35) rfl ?_); refine goesL_ (some 19) rfl rfl Try.func35 (by kernel_rfl) rfl #[.agg #[.slice A0_0 l0_0.length c0_0, .int .i64 a0_1], .int .i64 1048576] rfl (by (try simp only [List.map_toArray, List.map_cons, List.map_nil]); first | done | rfl | (simp only [List.length_drop, List.length_take]; rfl)) ?_; (with_reducible refine (laws_szInstrument.calls _ _ l0_0 a0_1 1048576 t241 _ ?side1 ?side2 A3.out).mono ?_); (case side1 => repeat (first | exact (Kd.C_below HR0_0.out HB.out) | (with_reducible refine Kd.C_alloc ?_ _) | (with_reducible refine Kd.C_drewN ?_ _) | (with_reducible refine Kd.C_drew ?_))); (case side2 => exact HC0_0.out); rintro e w22 ⟨rfl, hb⟩; refine ⟨_, rfl, ?_⟩; have n0_ := M_ (blk_below (g := gb240) (o := .cells #[.slice A0_0 l0_0.length c0_0, .int .i64 a0_1] 55 (0, 0)) (by (with_reducible repeat (first | refine kn_ ?_ _ | refine kd_ ?_ | refine ka_ ?_ _)); exact BK240.out) hb); have n1_ := M_ (below_step (by repeat (first | (with_reducible first | exact HB.out | apply ba_ | apply bn_ | apply b1_ | refine bs_ ?_ GE240.out) | exact HB.out)) hb); clear BK240; clear HB; have BK240 := n0_; have HB := n1_; clear n0_ n1_; (try clear hb); (try clear hb2); (try clear hk); (try clear hi)) | ((with_reducible refine gate_callee (f := 13) rfl ?_); refine goesL_ (some 24) rfl rfl Try.func13 (by kernel_rfl) rfl #[.slice A1 l1.length c1, .int .i64 t241] rfl (by (try simp only [List.map_toArray, List.map_cons, List.map_nil]); first | done | rfl | (simp only [List.length_drop, List.length_take]; rfl)) ?_; (with_reducible refine (laws_szNoteS.calls _ _ l1 t241 t242 _ ?side1 ?side2 A8.out).mono ?_); (case side1 => repeat (first | exact (Kd.C_below HR1.out HB.out) | (with_reducible refine Kd.C_alloc ?_ _) | (with_reducible refine Kd.C_drewN ?_ _) | (with_reducible refine Kd.C_drew ?_))); (case side2 => exact HC1.out); rintro e w' ⟨rfl, ⟨nd, rfl⟩⟩; refine ⟨_, rfl, ?_⟩; (try (rw [drewN_self w22]; generalize hq_ : World.drewN w22 _ = w22; have n0_ : Aside0 (w22.heap[gb240]? = some (.cells #[.slice A0_0 l0_0.length c0_0, .int .i64 a0_1] 55 (0, 0))) := ⟨by rw [← hq_]; exact (by (with_reducible repeat (first | refine kn_ ?_ _ | refine kd_ ?_ | refine ka_ ?_ _)); exact BK240.out)⟩; have n1_ : Aside0 (Below w.heap.size w w22) := ⟨by rw [← hq_]; exact (by repeat (first | (with_reducible first | exact HB.out | apply ba_ | apply bn_ | apply b1_ | refine bs_ ?_ GE240.out) | exact HB.out))⟩; clear BK240 HB hq_; have BK240 := n0_; have HB := n1_; clear n0_ n1_)); have hcz23_0 : w22.cell? ⟨gb240, 0, none⟩ = some (.slice A0_0 l0_0.length c0_0) := (blk_cell BK240.out 0).trans rfl; have hcz23_1 : w22.cell? ⟨gb240, 1, none⟩ = some (.int .i64 a0_1) := (blk_cell BK240.out 1).trans rfl; have hfz23_0 := blk_frozen BK240.out 0; have hfz23_1 := blk_frozen BK240.out 1) | ((with_reducible refine gate_callee (f := 37) rfl ?_); refine goesL_ (some 29) rfl rfl Try.func37 (by kernel_rfl) rfl #[.agg #[.slice A0_0 l0_0.length c0_0, .int .i64 a0_1]] rfl (by (try simp only [List.map_toArray, List.map_cons, List.map_nil]); first | done | rfl | (simp only [List.length_drop, List.length_take]; rfl)) ?_; (with_reducible refine (laws_toInstrument.calls k _ _ l0_0 a0_1 t243 t246 _ ?side1 ?side2 A13.out).mono ?_); (case side1 => repeat (first | exact (Kd.C_below HR0_0.out HB.out) | (with_reducible refine Kd.C_alloc ?_ _) | (with_reducible refine Kd.C_drewN ?_ _) | (with_reducible refine Kd.C_drew ?_))); (case side2 => exact HC0_0.out); rintro e w24 ⟨v244, rfl, ho0, hb⟩; refine ⟨_, rfl, ?_⟩; have n0_ := M_ (Kd.R_lower ho0 (below_size (by repeat (first | (with_reducible first | exact HB.out | apply ba_ | apply bn_ | apply b1_ | refine bs_ ?_ GE240.out) | exact HB.out)))); have n1_ := M_ (blk_below (g := gb240) (o := .cells #[.slice A0_0 l0_0.length c0_0, .int .i64 a0_1] 55 (0, 0)) (by (with_reducible repeat (first | refine kn_ ?_ _ | refine kd_ ?_ | refine ka_ ?_ _)); exact BK240.out) hb); have n2_ := M_ (below_step (by repeat (first | (with_reducible first | exact HB.out | apply ba_ | apply bn_ | apply b1_ | refine bs_ ?_ GE240.out) | exact HB.out)) hb); clear BK240; clear HB; have HO245 := n0_; have BK240 := n1_; have HB := n2_; clear n0_ n1_ n2_; (try clear hb); (try clear hb2); (try clear hk); (try clear hi); (try clear ho0)) | ((with_reducible refine gate_callee (f := 15) rfl ?_); refine goesL_ (some 31) rfl rfl Try.func15 (by kernel_rfl) rfl #[.slice A1 l1.length c1] rfl (by (try simp only [List.map_toArray, List.map_cons, List.map_nil]); first | done | rfl | (simp only [List.length_drop, List.length_take]; rfl)) ?_; (with_reducible refine (laws_toNoteS.calls k _ _ l1 t247 _ ?side1 ?side2 A14.out).mono ?_); (case side1 => repeat (first | exact (Kd.C_below HR1.out HB.out) | (with_reducible refine Kd.C_alloc ?_ _) | (with_reducible refine Kd.C_drewN ?_ _) | (with_reducible refine Kd.C_drew ?_))); (case side2 => exact HC1.out); rintro e w25 ⟨v248, rfl, ho0, hb⟩; refine ⟨_, rfl, ?_⟩; have n0_ := M_ (rb_ (by (with_reducible repeat (first | apply ra_ | apply rn_ | apply rd_)); exact HO245.out) hb); have n1_ := M_ (Kd.R_lower ho0 (below_size (by repeat (first | (with_reducible first | exact HB.out | apply ba_ | apply bn_ | apply b1_ | refine bs_ ?_ GE240.out) | exact HB.out)))); have n2_ := M_ (blk_below (g := gb240) (o := .cells #[.slice A0_0 l0_0.length c0_0, .int .i64 a0_1] 55 (0, 0)) (by (with_reducible repeat (first | refine kn_ ?_ _ | refine kd_ ?_ | refine ka_ ?_ _)); exact BK240.out) hb); have n3_ := M_ (below_step (by repeat (first | (with_reducible first | exact HB.out | apply ba_ | apply bn_ | apply b1_ | refine bs_ ?_ GE240.out) | exact HB.out)) hb); clear HO245; clear BK240; clear HB; have HO245 := n0_; have HO249 := n1_; have BK240 := n2_; have HB := n3_; clear n0_ n1_ n2_ n3_; (try clear hb); (try clear hb2); (try clear hk); (try clear hi); (try clear ho0); obtain ⟨Ao26, co26, eo26⟩ := Kd.R_slice HO245.out; subst eo26; obtain ⟨Ao27, co27, eo27⟩ := Kd.R_slice HO249.out; subst eo27) | ((with_reducible refine gate_callee (f := 40) rfl ?_); refine goesL_ (some 32) rfl rfl Try.func40 (by kernel_rfl) rfl #[.agg #[.slice Ao26 t243.length co26, .int .i64 t246], .slice Ao27 t247.length co27] rfl (by (try simp only [List.map_toArray, List.map_cons, List.map_nil]); first | done | rfl | (simp only [List.length_drop, List.length_take]; rfl)) ?_; (with_reducible refine (spec_PlayablePart.calls k _ _ t243 t246 _ _ t247 t250 t253 _ ?side1 ?side2 ?side3 ?side4 A15.out).mono ?_); (case side1 => repeat (first | exact (Kd.R_reads' HO245.out).2.2 | (with_reducible refine Kd.C_alloc ?_ _) | (with_reducible refine Kd.C_drewN ?_ _) | (with_reducible refine Kd.C_drew ?_))); (case side2 => exact (Kd.R_reads' HO245.out).2.1); (case side3 => repeat (first | exact (Kd.R_reads' HO249.out).2.2 | (with_reducible refine Kd.C_alloc ?_ _) | (with_reducible refine Kd.C_drewN ?_ _) | (with_reducible refine Kd.C_drew ?_))); (case side4 => exact (Kd.R_reads' HO249.out).2.1); rintro e w28 ⟨v251, rfl, ho0, hb⟩; refine ⟨_, rfl, ?_⟩; have n0_ := M_ (rb_ (by (with_reducible repeat (first | apply ra_ | apply rn_ | apply rd_)); exact HO245.out) hb); have n1_ := M_ (Kd.R_elder' (by (with_reducible repeat (first | apply ra_ | apply rn_ | apply rd_)); exact HO249.out) (Kd.R_base ho0) hb); have n2_ := M_ (Kd.R_lower (Kd.R_new' ho0 (Kd.R_lt (by (with_reducible repeat (first | apply ra_ | apply rn_ | apply rd_)); exact HO249.out))) (below_size (by repeat (first | (with_reducible first | exact HB.out | apply ba_ | apply bn_ | apply b1_ | refine bs_ ?_ GE240.out) | exact HB.out)))); have n3_ := M_ (blk_below (g := gb240) (o := .cells #[.slice A0_0 l0_0.length c0_0, .int .i64 a0_1] 55 (0, 0)) (by (with_reducible repeat (first | refine kn_ ?_ _ | refine kd_ ?_ | refine ka_ ?_ _)); exact BK240.out) hb); have n4_ := M_ (below_step (by repeat (first | (with_reducible first | exact HB.out | apply ba_ | apply bn_ | apply b1_ | refine bs_ ?_ GE240.out) | exact HB.out)) hb); clear HO245; clear HO249; clear BK240; clear HB; have HO245 := n0_; have HO249 := n1_; have HO252 := n2_; have BK240 := n3_; have HB := n4_; clear n0_ n1_ n2_ n3_ n4_; (try clear hb); (try clear hb2); (try clear hk); (try clear hi); (try clear ho0); have hcz29_0 : w28.cell? ⟨gb240, 0, none⟩ = some (.slice A0_0 l0_0.length c0_0) := (blk_cell BK240.out 0).trans rfl; have hcz29_1 : w28.cell? ⟨gb240, 1, none⟩ = some (.int .i64 a0_1) := (blk_cell BK240.out 1).trans rfl; have hfz29_0 := blk_frozen BK240.out 0; have hfz29_1 := blk_frozen BK240.out 1) | ((with_reducible refine gate_callee (f := 37) rfl ?_); refine goesL_ (some 36) rfl rfl Try.func37 (by kernel_rfl) rfl #[.agg #[.slice A0_0 l0_0.length c0_0, .int .i64 a0_1]] rfl (by (try simp only [List.map_toArray, List.map_cons, List.map_nil]); first | done | rfl | (simp only [List.length_drop, List.length_take]; rfl)) ?_; (with_reducible refine (laws_toInstrument.calls k _ _ l0_0 a0_1 t254 t257 _ ?side1 ?side2 A16.out).mono ?_); (case side1 => repeat (first | exact (Kd.C_below HR0_0.out HB.out) | (with_reducible refine Kd.C_alloc ?_ _) | (with_reducible refine Kd.C_drewN ?_ _) | (with_reducible refine Kd.C_drew ?_))); (case side2 => exact HC0_0.out); rintro e w30 ⟨v255, rfl, ho0, hb⟩; refine ⟨_, rfl, ?_⟩; have n0_ := M_ (Kd.R_elder' (by (with_reducible repeat (first | apply ra_ | apply rn_ | apply rd_)); exact HO245.out) (Kd.R_base ho0) hb); have n1_ := M_ (rb_ (by (with_reducible repeat (first | apply ra_ | apply rn_ | apply rd_)); exact HO249.out) hb); have n2_ := M_ (rb_ (by (with_reducible repeat (first | apply ra_ | apply rn_ | apply rd_)); exact HO252.out) hb); have n3_ := M_ (Kd.R_lower (Kd.R_new' ho0 (Kd.R_lt (by (with_reducible repeat (first | apply ra_ | apply rn_ | apply rd_)); exact HO245.out))) (below_size (by repeat (first | (with_reducible first | exact HB.out | apply ba_ | apply bn_ | apply b1_ | refine bs_ ?_ GE240.out) | exact HB.out)))); have n4_ := M_ (blk_below (g := gb240) (o := .cells #[.slice A0_0 l0_0.length c0_0, .int .i64 a0_1] 55 (0, 0)) (by (with_reducible repeat (first | refine kn_ ?_ _ | refine kd_ ?_ | refine ka_ ?_ _)); exact BK240.out) hb); have n5_ := M_ (below_step (by repeat (first | (with_reducible first | exact HB.out | apply ba_ | apply bn_ | apply b1_ | refine bs_ ?_ GE240.out) | exact HB.out)) hb); clear HO245; clear HO249; clear HO252; clear BK240; clear HB; have HO245 := n0_; have HO249 := n1_; have HO252 := n2_; have HO256 := n3_; have BK240 := n4_; have HB := n5_; clear n0_ n1_ n2_ n3_ n4_ n5_; (try clear hb); (try clear hb2); (try clear hk); (try clear hi); (try clear ho0)) | ((with_reducible refine gate_dst (N := 8) rfl ?_); refine box_event ?hg (N := 8) ?hd (cs := #[.slice none 0 0, .int .i64 0]) (t := 59) ?hr ?_; (case hd => rfl); (case hg => rfl); (case hr => first | (go_simp; done) | (go_simp; rfl)); intro gb258 hg w31 hbox hb; have n0_ := M_ (rb_ (by (with_reducible repeat (first | apply ra_ | apply rn_ | apply rd_)); exact HO245.out) hb); have n1_ := M_ (rb_ (by (with_reducible repeat (first | apply ra_ | apply rn_ | apply rd_)); exact HO249.out) hb); have n2_ := M_ (rb_ (by (with_reducible repeat (first | apply ra_ | apply rn_ | apply rd_)); exact HO252.out) hb); have n3_ := M_ (rb_ (by (with_reducible repeat (first | apply ra_ | apply rn_ | apply rd_)); exact HO256.out) hb); have n4_ := M_ (blk_below (g := gb240) (o := .cells #[.slice A0_0 l0_0.length c0_0, .int .i64 a0_1] 55 (0, 0)) (by (with_reducible repeat (first | refine kn_ ?_ _ | refine kd_ ?_ | refine ka_ ?_ _)); exact BK240.out) hb); have n5_ := M_ (below_step (by repeat (first | (with_reducible first | exact HB.out | apply ba_ | apply bn_ | apply b1_ | refine bs_ ?_ GE240.out) | exact HB.out)) hb); have n6_ := M_ (hbox); have n7_ := M_ ((by rw [hg]; exact (below_size (by repeat (first | (with_reducible first | exact HB.out | apply ba_ | apply bn_ | apply b1_ | refine bs_ ?_ GE240.out) | exact HB.out))) : w.heap.size ≤ gb258)); have n8_ := M_ ((by rw [hg]; exact (below_size (by repeat (first | (with_reducible first | exact HB.out | apply ba_ | apply bn_ | apply b1_ | refine bs_ ?_ GE240.out) | exact HB.out))) : w.heap.size ≤ gb258)); have n9_ := M_ ((by rw [hg]; exact Nat.ne_of_lt (blk_lt (g := gb240) (o := .cells #[.slice A0_0 l0_0.length c0_0, .int .i64 a0_1] 55 (0, 0)) (by (with_reducible repeat (first | refine kn_ ?_ _ | refine kd_ ?_ | refine ka_ ?_ _)); exact BK240.out)) : gb240 ≠ gb258)); have n10_ := M_ ((by rw [hg]; exact Nat.ne_of_gt (blk_lt (g := gb240) (o := .cells #[.slice A0_0 l0_0.length c0_0, .int .i64 a0_1] 55 (0, 0)) (by (with_reducible repeat (first | refine kn_ ?_ _ | refine kd_ ?_ | refine ka_ ?_ _)); exact BK240.out)) : gb258 ≠ gb240)); clear HO245; clear HO249; clear HO252; clear HO256; clear BK240; clear HB; have HO245 := n0_; have HO249 := n1_; have HO252 := n2_; have HO256 := n3_; have BK240 := n4_; have HB := n5_; have BK258 := n6_; have GW258 := n7_; have GE258 := n8_; have NB240_258 := n9_; have NB258_240 := n10_; clear n0_ n1_ n2_ n3_ n4_ n5_ n6_ n7_ n8_ n9_ n10_; clear hb hbox hg; obtain ⟨Ao32, co32, eo32⟩ := Kd.R_slice HO256.out; subst eo32; have hnb33 := NB258_240.out; have hnc33 := NB240_258.out; have hcz34_0 : w31.cell? ⟨gb258, 0, none⟩ = some (.slice none 0 0) := (blk_cell BK258.out 0).trans rfl; have hcz34_1 : w31.cell? ⟨gb258, 1, none⟩ = some (.int .i64 0) := (blk_cell BK258.out 1).trans rfl; have hfz34_0 := blk_frozen BK258.out 0; have hfz34_1 := blk_frozen BK258.out 1) | ((with_reducible refine gate_callee (f := 15) rfl ?_); refine goesL_ (some 38) rfl rfl Try.func15 (by kernel_rfl) rfl #[.slice A1 l1.length c1] rfl (by (try simp only [List.map_toArray, List.map_cons, List.map_nil]); first | done | rfl | (simp only [List.length_drop, List.length_take]; rfl)) ?_; (with_reducible refine (laws_toNoteS.calls k _ _ l1 t259 _ ?side1 ?side2 A17.out).mono ?_); (case side1 => exact Kd.C_below HR1.out (by repeat (first | (with_reducible first | exact HB.out | apply ba_ | apply bn_ | apply b1_ | refine bs_ ?_ GE240.out | refine bs_ ?_ GE258.out) | exact HB.out))); (case side2 => exact HC1.out); rintro e w35 ⟨v260, rfl, ho0, hb⟩; refine ⟨_, rfl, ?_⟩; have n0_ := M_ (rb_ (by (with_reducible repeat (first | apply ra_ | apply rn_ | apply rd_)); exact (rm_ (Kd.R_far (p := ⟨gb258, 1, none⟩) (Kd.R_far (p := ⟨gb258, 0, none⟩) (rt_ HO245.out BK258.out (by decide)) (fun _ hk => hk.2) (.slice Ao32 t254.length co32)) (fun _ hk => hk.2) (.int .i64 t257)) (fun _ h_ => h_.1))) hb); have n1_ := M_ (Kd.R_elder' (by (with_reducible repeat (first | apply ra_ | apply rn_ | apply rd_)); exact (rm_ (Kd.R_far (p := ⟨gb258, 1, none⟩) (Kd.R_far (p := ⟨gb258, 0, none⟩) (rt_ HO249.out BK258.out (by decide)) (fun _ hk => hk.2) (.slice Ao32 t254.length co32)) (fun _ hk => hk.2) (.int .i64 t257)) (fun _ h_ => h_.1))) (Kd.R_base ho0) hb); have n2_ := M_ (Kd.R_elder' (by (with_reducible repeat (first | apply ra_ | apply rn_ | apply rd_)); exact (rm_ (Kd.R_far (p := ⟨gb258, 1, none⟩) (Kd.R_far (p := ⟨gb258, 0, none⟩) (rt_ HO252.out BK258.out (by decide)) (fun _ hk => hk.2) (.slice Ao32 t254.length co32)) (fun _ hk => hk.2) (.int .i64 t257)) (fun _ h_ => h_.1))) (Kd.R_base ho0) hb); have n3_ := M_ (rb_ (by (with_reducible repeat (first | apply ra_ | apply rn_ | apply rd_)); exact (rm_ (Kd.R_far (p := ⟨gb258, 1, none⟩) (Kd.R_far (p := ⟨gb258, 0, none⟩) (rt_ HO256.out BK258.out (by decide)) (fun _ hk => hk.2) (.slice Ao32 t254.length co32)) (fun _ hk => hk.2) (.int .i64 t257)) (fun _ h_ => h_.1))) hb); have n4_ := M_ (Kd.R_lower (Kd.R_new' (Kd.R_new' ho0 (Kd.R_lt (by (with_reducible repeat (first | apply ra_ | apply rn_ | apply rd_)); exact (rm_ (Kd.R_far (p := ⟨gb258, 1, none⟩) (Kd.R_far (p := ⟨gb258, 0, none⟩) (rt_ HO249.out BK258.out (by decide)) (fun _ hk => hk.2) (.slice Ao32 t254.length co32)) (fun _ hk => hk.2) (.int .i64 t257)) (fun _ h_ => h_.1))))) (Kd.R_lt (by (with_reducible repeat (first | apply ra_ | apply rn_ | apply rd_)); exact (rm_ (Kd.R_far (p := ⟨gb258, 1, none⟩) (Kd.R_far (p := ⟨gb258, 0, none⟩) (rt_ HO252.out BK258.out (by decide)) (fun _ hk => hk.2) (.slice Ao32 t254.length co32)) (fun _ hk => hk.2) (.int .i64 t257)) (fun _ h_ => h_.1))))) (below_size (by repeat (first | (with_reducible first | exact HB.out | apply ba_ | apply bn_ | apply b1_ | refine bs_ ?_ GE240.out | refine bs_ ?_ GE258.out) | exact HB.out)))); have n5_ := M_ (blk_below (g := gb240) (o := .cells #[.slice A0_0 l0_0.length c0_0, .int .i64 a0_1] 55 (0, 0)) (by (with_reducible repeat (first | refine kn_ ?_ _ | refine kd_ ?_ | refine ka_ ?_ _)); refine blk_far ?_ NB240_258.out _; (with_reducible repeat (first | refine kn_ ?_ _ | refine kd_ ?_ | refine ka_ ?_ _)); refine blk_far ?_ NB240_258.out _; (with_reducible repeat (first | refine kn_ ?_ _ | refine kd_ ?_ | refine ka_ ?_ _)); exact BK240.out) hb); have n6_ := M_ (blk_below (g := gb258) (o := .cells #[.slice Ao32 t254.length co32, .int .i64 t257] 59 (0, 0)) (by (with_reducible repeat (first | refine kn_ ?_ _ | refine kd_ ?_ | refine ka_ ?_ _)); refine blk_put (cs := #[.slice Ao32 t254.length co32, .int .i64 0]) ?_ 1 _ rfl; (with_reducible repeat (first | refine kn_ ?_ _ | refine kd_ ?_ | refine ka_ ?_ _)); refine blk_put (cs := #[.slice none 0 0, .int .i64 0]) ?_ 0 _ rfl; (with_reducible repeat (first | refine kn_ ?_ _ | refine kd_ ?_ | refine ka_ ?_ _)); exact BK258.out) hb); have n7_ := M_ (below_step (by repeat (first | (with_reducible first | exact HB.out | apply ba_ | apply bn_ | apply b1_ | refine bs_ ?_ GE240.out | refine bs_ ?_ GE258.out) | exact HB.out)) hb); clear HO245; clear HO249; clear HO252; clear HO256; clear BK240; clear BK258; clear HB; have HO245 := n0_; have HO249 := n1_; have HO252 := n2_; have HO256 := n3_; have HO261 := n4_; have BK240 := n5_; have BK258 := n6_; have HB := n7_; clear n0_ n1_ n2_ n3_ n4_ n5_ n6_ n7_; (try clear hb); (try clear hb2); (try clear hk); (try clear hi); (try clear ho0); have hcz36_0 : w35.cell? ⟨gb258, 0, none⟩ = some (.slice Ao32 t254.length co32) := (blk_cell BK258.out 0).trans rfl; have hcz36_1 : w35.cell? ⟨gb258, 1, none⟩ = some (.int .i64 t257) := (blk_cell BK258.out 1).trans rfl; have hfz36_0 := blk_frozen BK258.out 0; have hfz36_1 := blk_frozen BK258.out 1; obtain ⟨Ao37, co37, eo37⟩ := Kd.R_slice HO261.out; subst eo37) | ((with_reducible refine gate_callee (f := 41) rfl ?_); refine goesL_ (some 42) rfl rfl Try.func41 (by kernel_rfl) rfl #[.agg #[.slice Ao32 t254.length co32, .int .i64 t257], .slice Ao37 t259.length co37] rfl (by (try simp only [List.map_toArray, List.map_cons, List.map_nil]); first | done | rfl | (simp only [List.length_drop, List.length_take]; rfl)) ?_; (with_reducible refine (impl_PlayablePart.calls k _ _ t254 t257 _ _ t259 t262 t265 _ ?side1 ?side2 ?side3 ?side4 A18.out).mono ?_); (case side1 => repeat (first | exact (Kd.R_reads' HO256.out).2.2 | (with_reducible refine Kd.C_alloc ?_ _) | (with_reducible refine Kd.C_drewN ?_ _) | (with_reducible refine Kd.C_drew ?_))); (case side2 => exact (Kd.R_reads' HO256.out).2.1); (case side3 => repeat (first | exact (Kd.R_reads' HO261.out).2.2 | (with_reducible refine Kd.C_alloc ?_ _) | (with_reducible refine Kd.C_drewN ?_ _) | (with_reducible refine Kd.C_drew ?_))); (case side4 => exact (Kd.R_reads' HO261.out).2.1); rintro e w38 ⟨v263, rfl, ho0, hb⟩; refine ⟨_, rfl, ?_⟩; have n0_ := M_ (rb_ (by (with_reducible repeat (first | apply ra_ | apply rn_ | apply rd_)); exact HO245.out) hb); have n1_ := M_ (Kd.R_elder' (by (with_reducible repeat (first | apply ra_ | apply rn_ | apply rd_)); exact HO249.out) (Kd.R_base ho0) hb); have n2_ := M_ (Kd.R_elder' (by (with_reducible repeat (first | apply ra_ | apply rn_ | apply rd_)); exact HO252.out) (Kd.R_base ho0) hb); have n3_ := M_ (rb_ (by (with_reducible repeat (first | apply ra_ | apply rn_ | apply rd_)); exact HO256.out) hb); have n4_ := M_ (Kd.R_elder' (by (with_reducible repeat (first | apply ra_ | apply rn_ | apply rd_)); exact HO261.out) (Kd.R_base ho0) hb); have n5_ := M_ (Kd.R_lower (Kd.R_new' (Kd.R_new' (Kd.R_new' ho0 (Kd.R_lt (by (with_reducible repeat (first | apply ra_ | apply rn_ | apply rd_)); exact HO249.out))) (Kd.R_lt (by (with_reducible repeat (first | apply ra_ | apply rn_ | apply rd_)); exact HO252.out))) (Kd.R_lt (by (with_reducible repeat (first | apply ra_ | apply rn_ | apply rd_)); exact HO261.out))) (below_size (by repeat (first | (with_reducible first | exact HB.out | apply ba_ | apply bn_ | apply b1_ | refine bs_ ?_ GE240.out | refine bs_ ?_ GE258.out) | exact HB.out)))); have n6_ := M_ (blk_below (g := gb240) (o := .cells #[.slice A0_0 l0_0.length c0_0, .int .i64 a0_1] 55 (0, 0)) (by (with_reducible repeat (first | refine kn_ ?_ _ | refine kd_ ?_ | refine ka_ ?_ _)); exact BK240.out) hb); have n7_ := M_ (blk_below (g := gb258) (o := .cells #[.slice Ao32 t254.length co32, .int .i64 t257] 59 (0, 0)) (by (with_reducible repeat (first | refine kn_ ?_ _ | refine kd_ ?_ | refine ka_ ?_ _)); exact BK258.out) hb); have n8_ := M_ (below_step (by repeat (first | (with_reducible first | exact HB.out | apply ba_ | apply bn_ | apply b1_ | refine bs_ ?_ GE240.out | refine bs_ ?_ GE258.out) | exact HB.out)) hb); clear HO245; clear HO249; clear HO252; clear HO256; clear HO261; clear BK240; clear BK258; clear HB; have HO245 := n0_; have HO249 := n1_; have HO252 := n2_; have HO256 := n3_; have HO261 := n4_; have HO264 := n5_; have BK240 := n6_; have BK258 := n7_; have HB := n8_; clear n0_ n1_ n2_ n3_ n4_ n5_ n6_ n7_ n8_; (try clear hb); (try clear hb2); (try clear hk); (try clear hi); (try clear ho0)))
   (try simp only [Act.put, la_, lb_, lc_])
   go_cut [53] (fun v53 wc => ∃ (kq : Nat) (x53_18 : Bool), v53 = .bool x53_18 ∧ Aside0 (laws_FnExactPlayablePart.j0 kq l1 t250 t253 t259 t262 t265 x53_18 l0_0 a0_1 t254 t257 = some r) ∧ Aside0 (kq ≤ k) ∧ Aside0 (Kd.R k92 92 wc w.heap.size (fun k_ => some k_ ≠ ((.slice Ao37 t259.length co37) : Value).ownBlock ∧ some k_ ≠ (v263 : Value).ownBlock) v251 t250) ∧ Aside0 (Kd.R k92 92 wc w.heap.size (fun k_ => some k_ ≠ (v251 : Value).ownBlock ∧ some k_ ≠ (v263 : Value).ownBlock) (.slice Ao37 t259.length co37) t259) ∧ Aside0 (Kd.R k92 92 wc w.heap.size (fun k_ => some k_ ≠ (v251 : Value).ownBlock ∧ some k_ ≠ ((.slice Ao37 t259.length co37) : Value).ownBlock) v263 t262) ∧ Aside0 (Kd.R (Kd.int .i64) 3 wc w.heap.size (fun _ => True) (.slice Ao32 t254.length co32) t254) ∧ Aside0 (wc.heap[gb240]? = some (.cells #[(.slice A0_0 l0_0.length c0_0), .int .i64 a0_1] 55 (0, 0))) ∧ Aside0 (wc.heap[gb258]? = some (.cells #[(.slice Ao32 t254.length co32), .int .i64 t257] 59 (0, 0))) ∧ Aside0 (Below w.heap.size w wc))
   case first =>
    have H := HC19.out
    clear HC19
    replace H := Option.bind_eq_some_iff.mp H
    obtain ⟨t266, A390, H⟩ := H
    replace H : (if t266 = true then (laws_FnExactPlayablePart.j0 k l1 t250 t253 t259 t262 t265 (t265 != t253) l0_0 a0_1 t254 t257) else (laws_FnExactPlayablePart.j0 k l1 t250 t253 t259 t262 t265 true l0_0 a0_1 t254 t257)) = some r := H
    have A39 := M_ A390
    clear A390
    by_cases c40 : t266 = true
    ·subst c40
     have H1 : (laws_FnExactPlayablePart.j0 k l1 t250 t253 t259 t262 t265 (t265 != t253) l0_0 a0_1 t254 t257) = some r := by rw [if_pos rfl] at H; exact H
     clear H
     have H := H1
     clear H1
     have H' := M_ H
     clear H
     obtain ⟨Ao41, co41, eo41⟩ := Kd.R_slice HO264.out
     subst eo41
     obtain ⟨Ao42, co42, eo42⟩ := Kd.R_slice HO252.out
     subst eo42
     go_wp2_with (first | ((with_reducible refine gate_callee (f := 17) rfl ?_); refine goesL_ (some 47) rfl rfl Try.func17 (by kernel_rfl) rfl #[.slice Ao41 t262.length co41, .slice Ao42 t250.length co42] rfl (by (try simp only [List.map_toArray, List.map_cons, List.map_nil]); first | done | rfl | (simp only [List.length_drop, List.length_take]; rfl)) ?_; (with_reducible refine (laws_eqNoteS.calls k _ _ t262 _ _ t250 true _ ?side1 ?side2 ?side3 ?side4 A39.out).mono ?_); (case side1 => repeat (first | exact (Kd.R_reads' HO264.out).2.2 | (with_reducible refine Kd.C_alloc ?_ _) | (with_reducible refine Kd.C_drewN ?_ _) | (with_reducible refine Kd.C_drew ?_))); (case side2 => exact (Kd.R_reads' HO264.out).2.1); (case side3 => repeat (first | exact (Kd.R_reads' HO252.out).2.2 | (with_reducible refine Kd.C_alloc ?_ _) | (with_reducible refine Kd.C_drewN ?_ _) | (with_reducible refine Kd.C_drew ?_))); (case side4 => exact (Kd.R_reads' HO252.out).2.1); rintro e w43 ⟨rfl, hb⟩; refine ⟨_, rfl, ?_⟩; have n0_ := M_ (rb_ (by (with_reducible repeat (first | apply ra_ | apply rn_ | apply rd_)); exact HO245.out) hb); have n1_ := M_ (rb_ (by (with_reducible repeat (first | apply ra_ | apply rn_ | apply rd_)); exact HO249.out) hb); have n2_ := M_ (rb_ (by (with_reducible repeat (first | apply ra_ | apply rn_ | apply rd_)); exact HO252.out) hb); have n3_ := M_ (rb_ (by (with_reducible repeat (first | apply ra_ | apply rn_ | apply rd_)); exact HO256.out) hb); have n4_ := M_ (rb_ (by (with_reducible repeat (first | apply ra_ | apply rn_ | apply rd_)); exact HO261.out) hb); have n5_ := M_ (rb_ (by (with_reducible repeat (first | apply ra_ | apply rn_ | apply rd_)); exact HO264.out) hb); have n6_ := M_ (blk_below (g := gb240) (o := .cells #[.slice A0_0 l0_0.length c0_0, .int .i64 a0_1] 55 (0, 0)) (by (with_reducible repeat (first | refine kn_ ?_ _ | refine kd_ ?_ | refine ka_ ?_ _)); exact BK240.out) hb); have n7_ := M_ (blk_below (g := gb258) (o := .cells #[.slice Ao32 t254.length co32, .int .i64 t257] 59 (0, 0)) (by (with_reducible repeat (first | refine kn_ ?_ _ | refine kd_ ?_ | refine ka_ ?_ _)); exact BK258.out) hb); have n8_ := M_ (below_step (by repeat (first | (with_reducible first | exact HB.out | apply ba_ | apply bn_ | apply b1_ | refine bs_ ?_ GE240.out | refine bs_ ?_ GE258.out) | exact HB.out)) hb); clear HO245; clear HO249; clear HO252; clear HO256; clear HO261; clear HO264; clear BK240; clear BK258; clear HB; have HO245 := n0_; have HO249 := n1_; have HO252 := n2_; have HO256 := n3_; have HO261 := n4_; have HO264 := n5_; have BK240 := n6_; have BK258 := n7_; have HB := n8_; clear n0_ n1_ n2_ n3_ n4_ n5_ n6_ n7_ n8_; (try clear hb); (try clear hb2); (try clear hk); (try clear hi)))
     go_meet
     case rel => exact ⟨_, ((t265 != t253)), (by first | rfl | (simp; done) | (simp [*]; done)), H', ⟨by first | omega | exact Nat.le_refl _⟩, ⟨by (with_reducible repeat (first | apply ra_ | apply rn_ | apply rd_)); first | exact rm_ HO252.out (fun _ hk => ⟨hk.1.2, hk.2⟩) | exact rm_ HO252.out (fun _ hk => by refine ⟨?_, ?_⟩ <;> (first | exact hk.2 | exact hk.2.1 | exact hk.2.2 | exact hk.1.2 | exact hk.1.2.1 | exact hk.1.2.2 | exact hk.1.1.2 | exact hk.1.1.2.1 | exact hk.1.1.2.2 | exact hk.1.1.1.2 | exact hk.1.1.1.2.1 | exact hk.1.1.1.2.2 | exact hk.1.1.1.1.2 | exact hk.1.1.1.1.2.1 | exact hk.1.1.1.1.2.2 | exact hk | exact hk.1 | exact hk.1.1 | exact hk.1.1.1 | exact hk.1.1.1.1 | exact hk.1.1.1.1.1))⟩, ⟨by (with_reducible repeat (first | apply ra_ | apply rn_ | apply rd_)); first | exact rm_ HO261.out (fun _ hk => ⟨hk.1.2, hk.2⟩) | exact rm_ HO261.out (fun _ hk => by refine ⟨?_, ?_⟩ <;> (first | exact hk.2 | exact hk.2.1 | exact hk.2.2 | exact hk.1.2 | exact hk.1.2.1 | exact hk.1.2.2 | exact hk.1.1.2 | exact hk.1.1.2.1 | exact hk.1.1.2.2 | exact hk.1.1.1.2 | exact hk.1.1.1.2.1 | exact hk.1.1.1.2.2 | exact hk.1.1.1.1.2 | exact hk.1.1.1.1.2.1 | exact hk.1.1.1.1.2.2 | exact hk | exact hk.1 | exact hk.1.1 | exact hk.1.1.1 | exact hk.1.1.1.1 | exact hk.1.1.1.1.1))⟩, ⟨by (with_reducible repeat (first | apply ra_ | apply rn_ | apply rd_)); first | exact rm_ HO264.out (fun _ hk => ⟨hk.1.2, hk.2⟩) | exact rm_ HO264.out (fun _ hk => by refine ⟨?_, ?_⟩ <;> (first | exact hk.2 | exact hk.2.1 | exact hk.2.2 | exact hk.1.2 | exact hk.1.2.1 | exact hk.1.2.2 | exact hk.1.1.2 | exact hk.1.1.2.1 | exact hk.1.1.2.2 | exact hk.1.1.1.2 | exact hk.1.1.1.2.1 | exact hk.1.1.1.2.2 | exact hk.1.1.1.1.2 | exact hk.1.1.1.1.2.1 | exact hk.1.1.1.1.2.2 | exact hk | exact hk.1 | exact hk.1.1 | exact hk.1.1.1 | exact hk.1.1.1.1 | exact hk.1.1.1.1.1))⟩, ⟨by (with_reducible repeat (first | apply ra_ | apply rn_ | apply rd_)); exact rm_ HO256.out (fun _ hk => trivial)⟩, ⟨by (with_reducible repeat (first | refine kn_ ?_ _ | refine kd_ ?_ | refine ka_ ?_ _)); exact BK240.out⟩, ⟨by (with_reducible repeat (first | refine kn_ ?_ _ | refine kd_ ?_ | refine ka_ ?_ _)); exact BK258.out⟩, ⟨by repeat (first | (with_reducible first | exact HB.out | apply ba_ | apply bn_ | apply b1_ | refine bs_ ?_ GE240.out | refine bs_ ?_ GE258.out) | exact HB.out)⟩⟩
    ·replace c40 := Bool.eq_false_iff.mpr c40
     subst c40
     have H1 : (laws_FnExactPlayablePart.j0 k l1 t250 t253 t259 t262 t265 true l0_0 a0_1 t254 t257) = some r := by rw [if_neg (show ¬ (false = true) by decide)] at H; exact H
     clear H
     have H := H1
     clear H1
     have H' := M_ H
     clear H
     obtain ⟨Ao44, co44, eo44⟩ := Kd.R_slice HO264.out
     subst eo44
     obtain ⟨Ao45, co45, eo45⟩ := Kd.R_slice HO252.out
     subst eo45
     go_wp2_with (first | ((with_reducible refine gate_callee (f := 17) rfl ?_); refine goesL_ (some 47) rfl rfl Try.func17 (by kernel_rfl) rfl #[.slice Ao44 t262.length co44, .slice Ao45 t250.length co45] rfl (by (try simp only [List.map_toArray, List.map_cons, List.map_nil]); first | done | rfl | (simp only [List.length_drop, List.length_take]; rfl)) ?_; (with_reducible refine (laws_eqNoteS.calls k _ _ t262 _ _ t250 false _ ?side1 ?side2 ?side3 ?side4 A39.out).mono ?_); (case side1 => repeat (first | exact (Kd.R_reads' HO264.out).2.2 | (with_reducible refine Kd.C_alloc ?_ _) | (with_reducible refine Kd.C_drewN ?_ _) | (with_reducible refine Kd.C_drew ?_))); (case side2 => exact (Kd.R_reads' HO264.out).2.1); (case side3 => repeat (first | exact (Kd.R_reads' HO252.out).2.2 | (with_reducible refine Kd.C_alloc ?_ _) | (with_reducible refine Kd.C_drewN ?_ _) | (with_reducible refine Kd.C_drew ?_))); (case side4 => exact (Kd.R_reads' HO252.out).2.1); rintro e w46 ⟨rfl, hb⟩; refine ⟨_, rfl, ?_⟩; have n0_ := M_ (rb_ (by (with_reducible repeat (first | apply ra_ | apply rn_ | apply rd_)); exact HO245.out) hb); have n1_ := M_ (rb_ (by (with_reducible repeat (first | apply ra_ | apply rn_ | apply rd_)); exact HO249.out) hb); have n2_ := M_ (rb_ (by (with_reducible repeat (first | apply ra_ | apply rn_ | apply rd_)); exact HO252.out) hb); have n3_ := M_ (rb_ (by (with_reducible repeat (first | apply ra_ | apply rn_ | apply rd_)); exact HO256.out) hb); have n4_ := M_ (rb_ (by (with_reducible repeat (first | apply ra_ | apply rn_ | apply rd_)); exact HO261.out) hb); have n5_ := M_ (rb_ (by (with_reducible repeat (first | apply ra_ | apply rn_ | apply rd_)); exact HO264.out) hb); have n6_ := M_ (blk_below (g := gb240) (o := .cells #[.slice A0_0 l0_0.length c0_0, .int .i64 a0_1] 55 (0, 0)) (by (with_reducible repeat (first | refine kn_ ?_ _ | refine kd_ ?_ | refine ka_ ?_ _)); exact BK240.out) hb); have n7_ := M_ (blk_below (g := gb258) (o := .cells #[.slice Ao32 t254.length co32, .int .i64 t257] 59 (0, 0)) (by (with_reducible repeat (first | refine kn_ ?_ _ | refine kd_ ?_ | refine ka_ ?_ _)); exact BK258.out) hb); have n8_ := M_ (below_step (by repeat (first | (with_reducible first | exact HB.out | apply ba_ | apply bn_ | apply b1_ | refine bs_ ?_ GE240.out | refine bs_ ?_ GE258.out) | exact HB.out)) hb); clear HO245; clear HO249; clear HO252; clear HO256; clear HO261; clear HO264; clear BK240; clear BK258; clear HB; have HO245 := n0_; have HO249 := n1_; have HO252 := n2_; have HO256 := n3_; have HO261 := n4_; have HO264 := n5_; have BK240 := n6_; have BK258 := n7_; have HB := n8_; clear n0_ n1_ n2_ n3_ n4_ n5_ n6_ n7_ n8_; (try clear hb); (try clear hb2); (try clear hk); (try clear hi)))
     go_meet
     case rel => exact ⟨_, (true), (by first | rfl | (simp; done) | (simp [*]; done)), H', ⟨by first | omega | exact Nat.le_refl _⟩, ⟨by (with_reducible repeat (first | apply ra_ | apply rn_ | apply rd_)); first | exact rm_ HO252.out (fun _ hk => ⟨hk.1.2, hk.2⟩) | exact rm_ HO252.out (fun _ hk => by refine ⟨?_, ?_⟩ <;> (first | exact hk.2 | exact hk.2.1 | exact hk.2.2 | exact hk.1.2 | exact hk.1.2.1 | exact hk.1.2.2 | exact hk.1.1.2 | exact hk.1.1.2.1 | exact hk.1.1.2.2 | exact hk.1.1.1.2 | exact hk.1.1.1.2.1 | exact hk.1.1.1.2.2 | exact hk.1.1.1.1.2 | exact hk.1.1.1.1.2.1 | exact hk.1.1.1.1.2.2 | exact hk | exact hk.1 | exact hk.1.1 | exact hk.1.1.1 | exact hk.1.1.1.1 | exact hk.1.1.1.1.1))⟩, ⟨by (with_reducible repeat (first | apply ra_ | apply rn_ | apply rd_)); first | exact rm_ HO261.out (fun _ hk => ⟨hk.1.2, hk.2⟩) | exact rm_ HO261.out (fun _ hk => by refine ⟨?_, ?_⟩ <;> (first | exact hk.2 | exact hk.2.1 | exact hk.2.2 | exact hk.1.2 | exact hk.1.2.1 | exact hk.1.2.2 | exact hk.1.1.2 | exact hk.1.1.2.1 | exact hk.1.1.2.2 | exact hk.1.1.1.2 | exact hk.1.1.1.2.1 | exact hk.1.1.1.2.2 | exact hk.1.1.1.1.2 | exact hk.1.1.1.1.2.1 | exact hk.1.1.1.1.2.2 | exact hk | exact hk.1 | exact hk.1.1 | exact hk.1.1.1 | exact hk.1.1.1.1 | exact hk.1.1.1.1.1))⟩, ⟨by (with_reducible repeat (first | apply ra_ | apply rn_ | apply rd_)); first | exact rm_ HO264.out (fun _ hk => ⟨hk.1.2, hk.2⟩) | exact rm_ HO264.out (fun _ hk => by refine ⟨?_, ?_⟩ <;> (first | exact hk.2 | exact hk.2.1 | exact hk.2.2 | exact hk.1.2 | exact hk.1.2.1 | exact hk.1.2.2 | exact hk.1.1.2 | exact hk.1.1.2.1 | exact hk.1.1.2.2 | exact hk.1.1.1.2 | exact hk.1.1.1.2.1 | exact hk.1.1.1.2.2 | exact hk.1.1.1.1.2 | exact hk.1.1.1.1.2.1 | exact hk.1.1.1.1.2.2 | exact hk | exact hk.1 | exact hk.1.1 | exact hk.1.1.1 | exact hk.1.1.1.1 | exact hk.1.1.1.1.1))⟩, ⟨by (with_reducible repeat (first | apply ra_ | apply rn_ | apply rd_)); exact rm_ HO256.out (fun _ hk => trivial)⟩, ⟨by (with_reducible repeat (first | refine kn_ ?_ _ | refine kd_ ?_ | refine ka_ ?_ _)); exact BK240.out⟩, ⟨by (with_reducible repeat (first | refine kn_ ?_ _ | refine kd_ ?_ | refine ka_ ?_ _)); exact BK258.out⟩, ⟨by repeat (first | (with_reducible first | exact HB.out | apply ba_ | apply bn_ | apply b1_ | refine bs_ ?_ GE240.out | refine bs_ ?_ GE258.out) | exact HB.out)⟩⟩
   case rest =>
    clear HC19
    try clear c1
    try clear p2
    try clear c3
    try clear c4
    try clear c4b0
    try clear c7
    try clear c9
    try clear c9b0
    try clear c13
    try clear c15
    try clear c17
    try clear c33
    try clear c35
    try clear c37
    try clear c40
    try clear c41
    try clear hcz11_0
    try clear hcz11_1
    try clear hcz21_0
    try clear hcz21_1
    try clear hcz23_0
    try clear hcz23_1
    try clear hcz29_0
    try clear hcz29_1
    try clear hcz34_0
    try clear hcz34_1
    try clear hcz36_0
    try clear hcz36_1
    try clear hcz6_0
    try clear hcz6_1
    try clear hfz11_0
    try clear hfz11_1
    try clear hfz21_0
    try clear hfz21_1
    try clear hfz23_0
    try clear hfz23_1
    try clear hfz29_0
    try clear hfz29_1
    try clear hfz34_0
    try clear hfz34_1
    try clear hfz36_0
    try clear hfz36_1
    try clear hfz6_0
    try clear hfz6_1
    obtain ⟨kq, x53_18, rfl, HA, HJ18, HO_6, HO_9, HO_10, HO_259000, BK240, BK258, HB⟩ := hcut
    cases kq with
    | zero => exact absurd HA.out (by simp [laws_FnExactPlayablePart.j0])
    | succ kj18 =>
     have H := HA.out
     clear HA
     simp only [laws_FnExactPlayablePart.j0] at H
     by_cases c47 : x53_18 = true
     ·subst c47
      have H1 : (some false) = some r := by rw [if_pos rfl] at H; exact H
      clear H
      have H := H1
      clear H1
      obtain rfl := Option.some.inj H
      go_wp2
      go_ret
      exact ⟨by first | rfl | (simp [errW_none, errW_some] <;> rfl) | (simp [*, errW_none, errW_some] <;> rfl), by repeat (first | (with_reducible first | exact HB.out | apply ba_ | apply bn_ | apply b1_ | refine bs_ ?_ GE240.out | refine bs_ ?_ GE258.out) | exact HB.out)⟩
     ·replace c47 := Bool.eq_false_iff.mpr c47
      subst c47
      have H1 : ((laws_toInstrument.f kj18 l0_0 a0_1).bind fun bt267 => ((laws_eqInstrument.f kj18 t254 t257 bt267.1 bt267.2).bind fun t271 => (if t271 = true then ((laws_toNoteS.f kj18 l1).bind fun t272 => ((laws_eqNoteS.f kj18 t259 t272).bind fun t275 => (if t275 = true then ((laws_markInstrument.f kj18 t254 t257 1).bind fun bt276 => ((laws_markNoteS.f kj18 t259 bt276.1).bind fun bt278 => (if bt278.1 < 0 then (laws_FnExactPlayablePart.j1 kj18 l1 t250 t253 t262 true l0_0 a0_1) else ((laws_eqNoteS.f kj18 t262 t250).bind fun t280 => (if t280 = true then (laws_FnExactPlayablePart.j1 kj18 l1 t250 t253 t262 (t265 != t253) l0_0 a0_1) else (laws_FnExactPlayablePart.j1 kj18 l1 t250 t253 t262 true l0_0 a0_1)))))) else (some false)))) else (some false)))) = some r := by rw [if_neg (show ¬ (false = true) by decide)] at H; exact H
      clear H
      have H := H1
      clear H1
      replace H := Option.bind_eq_some_iff.mp H
      obtain ⟨⟨t267, t270⟩, A480, H⟩ := H
      replace H : ((laws_eqInstrument.f kj18 t254 t257 t267 t270).bind fun t271 => (if t271 = true then ((laws_toNoteS.f kj18 l1).bind fun t272 => ((laws_eqNoteS.f kj18 t259 t272).bind fun t275 => (if t275 = true then ((laws_markInstrument.f kj18 t254 t257 1).bind fun bt276 => ((laws_markNoteS.f kj18 t259 bt276.1).bind fun bt278 => (if bt278.1 < 0 then (laws_FnExactPlayablePart.j1 kj18 l1 t250 t253 t262 true l0_0 a0_1) else ((laws_eqNoteS.f kj18 t262 t250).bind fun t280 => (if t280 = true then (laws_FnExactPlayablePart.j1 kj18 l1 t250 t253 t262 (t265 != t253) l0_0 a0_1) else (laws_FnExactPlayablePart.j1 kj18 l1 t250 t253 t262 true l0_0 a0_1)))))) else (some false)))) else (some false))) = some r := H
      have A48 := M_ A480
      clear A480
      replace H := Option.bind_eq_some_iff.mp H
      obtain ⟨t271, A490, H⟩ := H
      replace H : (if t271 = true then ((laws_toNoteS.f kj18 l1).bind fun t272 => ((laws_eqNoteS.f kj18 t259 t272).bind fun t275 => (if t275 = true then ((laws_markInstrument.f kj18 t254 t257 1).bind fun bt276 => ((laws_markNoteS.f kj18 t259 bt276.1).bind fun bt278 => (if bt278.1 < 0 then (laws_FnExactPlayablePart.j1 kj18 l1 t250 t253 t262 true l0_0 a0_1) else ((laws_eqNoteS.f kj18 t262 t250).bind fun t280 => (if t280 = true then (laws_FnExactPlayablePart.j1 kj18 l1 t250 t253 t262 (t265 != t253) l0_0 a0_1) else (laws_FnExactPlayablePart.j1 kj18 l1 t250 t253 t262 true l0_0 a0_1)))))) else (some false)))) else (some false)) = some r := H
      have A49 := M_ A490
      clear A490
      by_cases c50 : t271 = true
      ·subst c50
       have H1 : ((laws_toNoteS.f kj18 l1).bind fun t272 => ((laws_eqNoteS.f kj18 t259 t272).bind fun t275 => (if t275 = true then ((laws_markInstrument.f kj18 t254 t257 1).bind fun bt276 => ((laws_markNoteS.f kj18 t259 bt276.1).bind fun bt278 => (if bt278.1 < 0 then (laws_FnExactPlayablePart.j1 kj18 l1 t250 t253 t262 true l0_0 a0_1) else ((laws_eqNoteS.f kj18 t262 t250).bind fun t280 => (if t280 = true then (laws_FnExactPlayablePart.j1 kj18 l1 t250 t253 t262 (t265 != t253) l0_0 a0_1) else (laws_FnExactPlayablePart.j1 kj18 l1 t250 t253 t262 true l0_0 a0_1)))))) else (some false)))) = some r := by rw [if_pos rfl] at H; exact H
       clear H
       have H := H1
       clear H1
       replace H := Option.bind_eq_some_iff.mp H
       obtain ⟨t272, A510, H⟩ := H
       replace H : ((laws_eqNoteS.f kj18 t259 t272).bind fun t275 => (if t275 = true then ((laws_markInstrument.f kj18 t254 t257 1).bind fun bt276 => ((laws_markNoteS.f kj18 t259 bt276.1).bind fun bt278 => (if bt278.1 < 0 then (laws_FnExactPlayablePart.j1 kj18 l1 t250 t253 t262 true l0_0 a0_1) else ((laws_eqNoteS.f kj18 t262 t250).bind fun t280 => (if t280 = true then (laws_FnExactPlayablePart.j1 kj18 l1 t250 t253 t262 (t265 != t253) l0_0 a0_1) else (laws_FnExactPlayablePart.j1 kj18 l1 t250 t253 t262 true l0_0 a0_1)))))) else (some false))) = some r := H
       have A51 := M_ A510
       clear A510
       replace H := Option.bind_eq_some_iff.mp H
       obtain ⟨t275, A520, H⟩ := H
       replace H : (if t275 = true then ((laws_markInstrument.f kj18 t254 t257 1).bind fun bt276 => ((laws_markNoteS.f kj18 t259 bt276.1).bind fun bt278 => (if bt278.1 < 0 then (laws_FnExactPlayablePart.j1 kj18 l1 t250 t253 t262 true l0_0 a0_1) else ((laws_eqNoteS.f kj18 t262 t250).bind fun t280 => (if t280 = true then (laws_FnExactPlayablePart.j1 kj18 l1 t250 t253 t262 (t265 != t253) l0_0 a0_1) else (laws_FnExactPlayablePart.j1 kj18 l1 t250 t253 t262 true l0_0 a0_1)))))) else (some false)) = some r := H
       have A52 := M_ A520
       clear A520
       by_cases c53 : t275 = true
       ·subst c53
        have H1 : ((laws_markInstrument.f kj18 t254 t257 1).bind fun bt276 => ((laws_markNoteS.f kj18 t259 bt276.1).bind fun bt278 => (if bt278.1 < 0 then (laws_FnExactPlayablePart.j1 kj18 l1 t250 t253 t262 true l0_0 a0_1) else ((laws_eqNoteS.f kj18 t262 t250).bind fun t280 => (if t280 = true then (laws_FnExactPlayablePart.j1 kj18 l1 t250 t253 t262 (t265 != t253) l0_0 a0_1) else (laws_FnExactPlayablePart.j1 kj18 l1 t250 t253 t262 true l0_0 a0_1)))))) = some r := by rw [if_pos rfl] at H; exact H
        clear H
        have H := H1
        clear H1
        replace H := Option.bind_eq_some_iff.mp H
        obtain ⟨⟨t276, t277⟩, A540, H⟩ := H
        replace H : ((laws_markNoteS.f kj18 t259 t276).bind fun bt278 => (if bt278.1 < 0 then (laws_FnExactPlayablePart.j1 kj18 l1 t250 t253 t262 true l0_0 a0_1) else ((laws_eqNoteS.f kj18 t262 t250).bind fun t280 => (if t280 = true then (laws_FnExactPlayablePart.j1 kj18 l1 t250 t253 t262 (t265 != t253) l0_0 a0_1) else (laws_FnExactPlayablePart.j1 kj18 l1 t250 t253 t262 true l0_0 a0_1))))) = some r := H
        have A54 := M_ A540
        clear A540
        replace H := Option.bind_eq_some_iff.mp H
        obtain ⟨⟨t278, t279⟩, A550, H⟩ := H
        replace H : (if t278 < 0 then (laws_FnExactPlayablePart.j1 kj18 l1 t250 t253 t262 true l0_0 a0_1) else ((laws_eqNoteS.f kj18 t262 t250).bind fun t280 => (if t280 = true then (laws_FnExactPlayablePart.j1 kj18 l1 t250 t253 t262 (t265 != t253) l0_0 a0_1) else (laws_FnExactPlayablePart.j1 kj18 l1 t250 t253 t262 true l0_0 a0_1)))) = some r := H
        have A55 := M_ A550
        clear A550
        have HC56 := M_ H
        clear H
        try go_wp2
        have n0_ := M_ (rd_ HO_6.out)
        have n1_ := M_ (rd_ HO_9.out)
        have n2_ := M_ (rd_ HO_10.out)
        have n3_ := M_ (rd_ HO_259000.out)
        have n4_ := M_ (kd_ BK240.out)
        have n5_ := M_ (kd_ BK258.out)
        have n6_ := M_ (b1_ HB.out)
        clear HO_6
        clear HO_9
        clear HO_10
        clear HO_259000
        clear BK240
        clear BK258
        clear HB
        have HO_6 := n0_
        have HO_9 := n1_
        have HO_10 := n2_
        have HO_259000 := n3_
        have BK240 := n4_
        have BK258 := n5_
        have HB := n6_
        clear n0_ n1_ n2_ n3_ n4_ n5_ n6_
        refine start_ (n := 5) (S := fun w' => w'.cell? ⟨gb258, 0, none⟩ = some (.slice Ao32 t254.length co32) ∧ w'.cell? ⟨gb258, 1, none⟩ = some (.int .i64 t257) ∧ w'.cell? ⟨gb240, 0, none⟩ = some (.slice A0_0 l0_0.length c0_0) ∧ w'.cell? ⟨gb240, 1, none⟩ = some (.int .i64 a0_1)) (ds := []) #[false, false, false, false, false] (by kernel_rfl) rfl rfl ⟨(blk_cell BK258.out 0).trans rfl, (blk_cell BK258.out 1).trans rfl, (blk_cell BK240.out 0).trans rfl, (blk_cell BK240.out 1).trans rfl⟩ (fun hHeld => ?_)
        generalize wc.drew = w57 at HO_6 HO_9 HO_10 HO_259000 BK240 BK258 HB hHeld ⊢
        refine take_ (i := 0) (N := some 54) (v := ?_) (a' := ?_) #[true, false, false, false, false] rfl rfl (by kernel_rfl) (fun _ _ _ h => h) (Or.inl ⟨by rfl, ?_⟩) hHeld ?_ ?_
        rotate_left
        ·rintro w' ⟨s0, s1, s2, s3⟩
         go_simp
         with_reducible rfl
        rotate_left
        ·simp only [Act.put, la_, lb_, lc_, i64_w, i32_w]
         rfl
        refine take_ (i := 1) (N := some 55) (v := ?_) (a' := ?_) #[true, true, false, false, false] rfl rfl (by kernel_rfl) (fun _ _ _ h => h) (Or.inl ⟨by rfl, ?_⟩) hHeld ?_ ?_
        rotate_left
        ·rintro w' ⟨s0, s1, s2, s3⟩
         go_simp
         with_reducible rfl
        rotate_left
        ·simp only [Act.put, la_, lb_, lc_, i64_w, i32_w]
         rfl
        refine one_ (i := 2) (N := some 56) #[true, true, true, false, false] rfl rfl (by kernel_rfl) (by decide) (fun K hK => ?_)
        refine goes_ Try.func37 (by kernel_rfl) rfl #[.agg #[.slice A0_0 l0_0.length c0_0, .int .i64 a0_1]] (by rfl) rfl rfl (by (try simp only [List.map_toArray, List.map_cons, List.map_nil]); first | done | rfl | (simp only [List.length_drop, List.length_take]; rfl)) ?_
        with_reducible refine (laws_toInstrument.calls kj18 _ _ l0_0 a0_1 t267 t270 _ ?side1 ?side2 A48.out).mono ?_
        (case side1 => repeat (first | exact (Kd.C_below HR0_0.out HB.out) | (with_reducible refine Kd.C_alloc ?_ _) | (with_reducible refine Kd.C_drewN ?_ _) | (with_reducible refine Kd.C_drew ?_)))
        (case side2 => exact HC0_0.out)
        rintro e w58 ⟨v268, rfl, ho0, hb⟩
        refine ⟨_, rfl, ?_⟩
        have n0_ := M_ (rb_ (by (with_reducible repeat (first | apply ra_ | apply rn_ | apply rd_)); exact HO_6.out) hb)
        have n1_ := M_ (rb_ (by (with_reducible repeat (first | apply ra_ | apply rn_ | apply rd_)); exact HO_9.out) hb)
        have n2_ := M_ (rb_ (by (with_reducible repeat (first | apply ra_ | apply rn_ | apply rd_)); exact HO_10.out) hb)
        have n3_ := M_ (Kd.R_elder' (by (with_reducible repeat (first | apply ra_ | apply rn_ | apply rd_)); exact HO_259000.out) (Kd.R_base ho0) hb)
        have n4_ := M_ (Kd.R_lower (Kd.R_new' ho0 (Kd.R_lt (by (with_reducible repeat (first | apply ra_ | apply rn_ | apply rd_)); exact HO_259000.out))) (below_size (by repeat (first | (with_reducible first | exact HB.out | apply ba_ | apply bn_ | apply b1_ | refine bs_ ?_ GE240.out | refine bs_ ?_ GE258.out) | exact HB.out))))
        have n5_ := M_ (blk_below (g := gb240) (o := .cells #[.slice A0_0 l0_0.length c0_0, .int .i64 a0_1] 55 (0, 0)) (by (with_reducible repeat (first | refine kn_ ?_ _ | refine kd_ ?_ | refine ka_ ?_ _)); exact BK240.out) hb)
        have n6_ := M_ (blk_below (g := gb258) (o := .cells #[.slice Ao32 t254.length co32, .int .i64 t257] 59 (0, 0)) (by (with_reducible repeat (first | refine kn_ ?_ _ | refine kd_ ?_ | refine ka_ ?_ _)); exact BK258.out) hb)
        have n7_ := M_ (below_step (by repeat (first | (with_reducible first | exact HB.out | apply ba_ | apply bn_ | apply b1_ | refine bs_ ?_ GE240.out | refine bs_ ?_ GE258.out) | exact HB.out)) hb)
        clear HO_6
        clear HO_9
        clear HO_10
        clear HO_259000
        clear BK240
        clear BK258
        clear HB
        have HO_6 := n0_
        have HO_9 := n1_
        have HO_10 := n2_
        have HO_259000 := n3_
        have HO269 := n4_
        have BK240 := n5_
        have BK258 := n6_
        have HB := n7_
        clear n0_ n1_ n2_ n3_ n4_ n5_ n6_ n7_
        (try clear hb)
        (try clear hb2)
        (try clear hk)
        (try clear hi)
        (try clear ho0)
        obtain ⟨Ao59, co59, eo59⟩ := Kd.R_slice HO269.out
        (first | subst eo59 | (injection eo59 with f1_ f2_ f3_; have f4_ := f1_.symm; have f5_ := f3_.symm; clear f1_ f2_ f3_; subst f4_; subst f5_))
        refine hK.out _ _ ⟨(blk_cell BK258.out 0).trans rfl, (blk_cell BK258.out 1).trans rfl, (blk_cell BK240.out 0).trans rfl, (blk_cell BK240.out 1).trans rfl⟩ (fun hHeld => ?_)
        clear hK K
        refine norm_ (a' := ?_) ?_ ?_
        rotate_left
        ·show Act.put _ (some 56) _ = _
         simp only [Act.put, la_, lb_, lc_, i64_w, i32_w]
         rfl
        refine one_ (i := 3) (N := some 57) #[true, true, true, true, false] rfl rfl (by kernel_rfl) (by decide) (fun K hK => ?_)
        refine goes_ Try.func39 (by kernel_rfl) rfl #[.agg #[.slice Ao32 t254.length co32, .int .i64 t257], .agg #[.slice Ao59 t267.length co59, .int .i64 t270]] (by rfl) rfl rfl (by (try simp only [List.map_toArray, List.map_cons, List.map_nil]); first | done | rfl | (simp only [List.length_drop, List.length_take]; rfl)) ?_
        with_reducible refine (laws_eqInstrument.calls kj18 _ _ t254 t257 _ _ t267 t270 true _ ?side1 ?side2 ?side3 ?side4 A49.out).mono ?_
        (case side1 => repeat (first | exact (Kd.R_reads' HO_259000.out).2.2 | (with_reducible refine Kd.C_alloc ?_ _) | (with_reducible refine Kd.C_drewN ?_ _) | (with_reducible refine Kd.C_drew ?_)))
        (case side2 => exact (Kd.R_reads' HO_259000.out).2.1)
        (case side3 => repeat (first | exact (Kd.R_reads' HO269.out).2.2 | (with_reducible refine Kd.C_alloc ?_ _) | (with_reducible refine Kd.C_drewN ?_ _) | (with_reducible refine Kd.C_drew ?_)))
        (case side4 => exact (Kd.R_reads' HO269.out).2.1)
        rintro e w60 ⟨rfl, hb⟩
        refine ⟨_, rfl, ?_⟩
        have n0_ := M_ (rb_ (by (with_reducible repeat (first | apply ra_ | apply rn_ | apply rd_)); exact HO_6.out) hb)
        have n1_ := M_ (rb_ (by (with_reducible repeat (first | apply ra_ | apply rn_ | apply rd_)); exact HO_9.out) hb)
        have n2_ := M_ (rb_ (by (with_reducible repeat (first | apply ra_ | apply rn_ | apply rd_)); exact HO_10.out) hb)
        have n3_ := M_ (rb_ (by (with_reducible repeat (first | apply ra_ | apply rn_ | apply rd_)); exact HO_259000.out) hb)
        have n4_ := M_ (rb_ (by (with_reducible repeat (first | apply ra_ | apply rn_ | apply rd_)); exact HO269.out) hb)
        have n5_ := M_ (blk_below (g := gb240) (o := .cells #[.slice A0_0 l0_0.length c0_0, .int .i64 a0_1] 55 (0, 0)) (by (with_reducible repeat (first | refine kn_ ?_ _ | refine kd_ ?_ | refine ka_ ?_ _)); exact BK240.out) hb)
        have n6_ := M_ (blk_below (g := gb258) (o := .cells #[.slice Ao32 t254.length co32, .int .i64 t257] 59 (0, 0)) (by (with_reducible repeat (first | refine kn_ ?_ _ | refine kd_ ?_ | refine ka_ ?_ _)); exact BK258.out) hb)
        have n7_ := M_ (below_step (by repeat (first | (with_reducible first | exact HB.out | apply ba_ | apply bn_ | apply b1_ | refine bs_ ?_ GE240.out | refine bs_ ?_ GE258.out) | exact HB.out)) hb)
        clear HO_6
        clear HO_9
        clear HO_10
        clear HO_259000
        clear HO269
        clear BK240
        clear BK258
        clear HB
        have HO_6 := n0_
        have HO_9 := n1_
        have HO_10 := n2_
        have HO_259000 := n3_
        have HO269 := n4_
        have BK240 := n5_
        have BK258 := n6_
        have HB := n7_
        clear n0_ n1_ n2_ n3_ n4_ n5_ n6_ n7_
        (try clear hb)
        (try clear hb2)
        (try clear hk)
        (try clear hi)
        refine hK.out _ _ ⟨(blk_cell BK258.out 0).trans rfl, (blk_cell BK258.out 1).trans rfl, (blk_cell BK240.out 0).trans rfl, (blk_cell BK240.out 1).trans rfl⟩ (fun hHeld => ?_)
        clear hK K
        refine norm_ (a' := ?_) ?_ ?_
        rotate_left
        ·show Act.put _ (some 57) _ = _
         simp only [Act.put, la_, lb_, lc_, i64_w, i32_w]
         rfl
        refine pure_ (i := 4) (N := some 58) (v := ?_) (a' := ?_) #[true, true, true, true, true] rfl rfl (by kernel_rfl) (fun _ _ _ h => h) (Or.inl ⟨by rfl, ?_⟩) ?_ ?_
        rotate_left
        ·intro w'
         go_simp
         with_reducible rfl
        rotate_left
        ·simp only [Act.put, la_, lb_, lc_, i64_w, i32_w]
         rfl
        refine done_ (by kernel_rfl) ?_
        go_upto_region 21 with (first | ((with_reducible refine gate_callee (f := 15) rfl ?_); refine goesL_ (some 61) rfl rfl Try.func15 (by kernel_rfl) rfl #[.slice A1 l1.length c1] rfl (by (try simp only [List.map_toArray, List.map_cons, List.map_nil]); first | done | rfl | (simp only [List.length_drop, List.length_take]; rfl)) ?_; (with_reducible refine (laws_toNoteS.calls kj18 _ _ l1 t272 _ ?side1 ?side2 A51.out).mono ?_); (case side1 => repeat (first | exact (Kd.C_below HR1.out HB.out) | (with_reducible refine Kd.C_alloc ?_ _) | (with_reducible refine Kd.C_drewN ?_ _) | (with_reducible refine Kd.C_drew ?_))); (case side2 => exact HC1.out); rintro e w61 ⟨v273, rfl, ho0, hb⟩; refine ⟨_, rfl, ?_⟩; have n0_ := M_ (Kd.R_elder' (by (with_reducible repeat (first | apply ra_ | apply rn_ | apply rd_)); exact HO_6.out) (Kd.R_base ho0) hb); have n1_ := M_ (Kd.R_elder' (by (with_reducible repeat (first | apply ra_ | apply rn_ | apply rd_)); exact HO_9.out) (Kd.R_base ho0) hb); have n2_ := M_ (Kd.R_elder' (by (with_reducible repeat (first | apply ra_ | apply rn_ | apply rd_)); exact HO_10.out) (Kd.R_base ho0) hb); have n3_ := M_ (rb_ (by (with_reducible repeat (first | apply ra_ | apply rn_ | apply rd_)); exact HO_259000.out) hb); have n4_ := M_ (rb_ (by (with_reducible repeat (first | apply ra_ | apply rn_ | apply rd_)); exact HO269.out) hb); have n5_ := M_ (Kd.R_lower (Kd.R_new' (Kd.R_new' (Kd.R_new' ho0 (Kd.R_lt (by (with_reducible repeat (first | apply ra_ | apply rn_ | apply rd_)); exact HO_6.out))) (Kd.R_lt (by (with_reducible repeat (first | apply ra_ | apply rn_ | apply rd_)); exact HO_9.out))) (Kd.R_lt (by (with_reducible repeat (first | apply ra_ | apply rn_ | apply rd_)); exact HO_10.out))) (below_size (by repeat (first | (with_reducible first | exact HB.out | apply ba_ | apply bn_ | apply b1_ | refine bs_ ?_ GE240.out | refine bs_ ?_ GE258.out) | exact HB.out)))); have n6_ := M_ (blk_below (g := gb240) (o := .cells #[.slice A0_0 l0_0.length c0_0, .int .i64 a0_1] 55 (0, 0)) (by (with_reducible repeat (first | refine kn_ ?_ _ | refine kd_ ?_ | refine ka_ ?_ _)); exact BK240.out) hb); have n7_ := M_ (blk_below (g := gb258) (o := .cells #[.slice Ao32 t254.length co32, .int .i64 t257] 59 (0, 0)) (by (with_reducible repeat (first | refine kn_ ?_ _ | refine kd_ ?_ | refine ka_ ?_ _)); exact BK258.out) hb); have n8_ := M_ (below_step (by repeat (first | (with_reducible first | exact HB.out | apply ba_ | apply bn_ | apply b1_ | refine bs_ ?_ GE240.out | refine bs_ ?_ GE258.out) | exact HB.out)) hb); clear HO_6; clear HO_9; clear HO_10; clear HO_259000; clear HO269; clear BK240; clear BK258; clear HB; have HO_6 := n0_; have HO_9 := n1_; have HO_10 := n2_; have HO_259000 := n3_; have HO269 := n4_; have HO274 := n5_; have BK240 := n6_; have BK258 := n7_; have HB := n8_; clear n0_ n1_ n2_ n3_ n4_ n5_ n6_ n7_ n8_; (try clear hb); (try clear hb2); (try clear hk); (try clear hi); (try clear ho0); obtain ⟨Ao62, co62, eo62⟩ := Kd.R_slice HO274.out; subst eo62) | ((with_reducible refine gate_callee (f := 17) rfl ?_); refine goesL_ (some 62) rfl rfl Try.func17 (by kernel_rfl) rfl #[.slice Ao37 t259.length co37, .slice Ao62 t272.length co62] rfl (by (try simp only [List.map_toArray, List.map_cons, List.map_nil]); first | done | rfl | (simp only [List.length_drop, List.length_take]; rfl)) ?_; (with_reducible refine (laws_eqNoteS.calls kj18 _ _ t259 _ _ t272 true _ ?side1 ?side2 ?side3 ?side4 A52.out).mono ?_); (case side1 => repeat (first | exact (Kd.R_reads' HO_9.out).2.2 | (with_reducible refine Kd.C_alloc ?_ _) | (with_reducible refine Kd.C_drewN ?_ _) | (with_reducible refine Kd.C_drew ?_))); (case side2 => exact (Kd.R_reads' HO_9.out).2.1); (case side3 => repeat (first | exact (Kd.R_reads' HO274.out).2.2 | (with_reducible refine Kd.C_alloc ?_ _) | (with_reducible refine Kd.C_drewN ?_ _) | (with_reducible refine Kd.C_drew ?_))); (case side4 => exact (Kd.R_reads' HO274.out).2.1); rintro e w63 ⟨rfl, hb⟩; refine ⟨_, rfl, ?_⟩; have n0_ := M_ (rb_ (by (with_reducible repeat (first | apply ra_ | apply rn_ | apply rd_)); exact HO_6.out) hb); have n1_ := M_ (rb_ (by (with_reducible repeat (first | apply ra_ | apply rn_ | apply rd_)); exact HO_9.out) hb); have n2_ := M_ (rb_ (by (with_reducible repeat (first | apply ra_ | apply rn_ | apply rd_)); exact HO_10.out) hb); have n3_ := M_ (rb_ (by (with_reducible repeat (first | apply ra_ | apply rn_ | apply rd_)); exact HO_259000.out) hb); have n4_ := M_ (rb_ (by (with_reducible repeat (first | apply ra_ | apply rn_ | apply rd_)); exact HO269.out) hb); have n5_ := M_ (rb_ (by (with_reducible repeat (first | apply ra_ | apply rn_ | apply rd_)); exact HO274.out) hb); have n6_ := M_ (blk_below (g := gb240) (o := .cells #[.slice A0_0 l0_0.length c0_0, .int .i64 a0_1] 55 (0, 0)) (by (with_reducible repeat (first | refine kn_ ?_ _ | refine kd_ ?_ | refine ka_ ?_ _)); exact BK240.out) hb); have n7_ := M_ (blk_below (g := gb258) (o := .cells #[.slice Ao32 t254.length co32, .int .i64 t257] 59 (0, 0)) (by (with_reducible repeat (first | refine kn_ ?_ _ | refine kd_ ?_ | refine ka_ ?_ _)); exact BK258.out) hb); have n8_ := M_ (below_step (by repeat (first | (with_reducible first | exact HB.out | apply ba_ | apply bn_ | apply b1_ | refine bs_ ?_ GE240.out | refine bs_ ?_ GE258.out) | exact HB.out)) hb); clear HO_6; clear HO_9; clear HO_10; clear HO_259000; clear HO269; clear HO274; clear BK240; clear BK258; clear HB; have HO_6 := n0_; have HO_9 := n1_; have HO_10 := n2_; have HO_259000 := n3_; have HO269 := n4_; have HO274 := n5_; have BK240 := n6_; have BK258 := n7_; have HB := n8_; clear n0_ n1_ n2_ n3_ n4_ n5_ n6_ n7_ n8_; (try clear hb); (try clear hb2); (try clear hk); (try clear hi); have hnb64 := NB258_240.out; have hnc64 := NB240_258.out; have hcz65_0 : w63.cell? ⟨gb258, 0, none⟩ = some (.slice Ao32 t254.length co32) := (blk_cell BK258.out 0).trans rfl; have hcz65_1 : w63.cell? ⟨gb258, 1, none⟩ = some (.int .i64 t257) := (blk_cell BK258.out 1).trans rfl; have hfz65_0 := blk_frozen BK258.out 0; have hfz65_1 := blk_frozen BK258.out 1) | ((with_reducible refine gate_callee (f := 42) rfl ?_); refine goesL_ (some 66) rfl rfl Try.func42 (by kernel_rfl) rfl #[.agg #[.slice Ao32 t254.length co32, .int .i64 t257], .int .i64 1] rfl (by (try simp only [List.map_toArray, List.map_cons, List.map_nil]); first | done | rfl | (simp only [List.length_drop, List.length_take]; rfl)) ?_; (with_reducible refine (laws_markInstrument.calls kj18 (fun k_ => some k_ = (.slice Ao32 t254.length co32 : Value).ownBlock) (.slice Ao32 t254.length co32) t254 t257 1 t276 t277 w _ ?side1 ?side2 A54.out).mono ?_); (case side1 => repeat (first | (with_reducible first | exact HB.out | apply ba_ | apply bn_ | apply b1_ | refine bs_ ?_ GE240.out | refine bs_ ?_ GE258.out) | exact HB.out)); (case side2 => exact Kd.R_tight rfl HO_259000.out); rintro e w66 ⟨rfl, hy0, hb, hkp⟩; refine ⟨_, rfl, ?_⟩; have n0_ := M_ (rm_ (ok' := fun k_ => some k_ ≠ (.slice Ao37 t259.length co37 : Value).ownBlock ∧ some k_ ≠ (v263 : Value).ownBlock ∧ some k_ ≠ (.slice Ao62 t272.length co62 : Value).ownBlock) (Kd.R_keptB ((Kd.R_apart' HO_6.out (Kd.R_typed HO_259000.out) (by decide))) hkp (fun k_ hk_ hs_ => (hk_.2) hs_)) (fun k_ hk_ => ⟨hk_.1.1.1.1, hk_.1.1.1.2, hk_.1.1.2⟩)); have n1_ := M_ (rm_ (ok' := fun k_ => some k_ ≠ (v251 : Value).ownBlock ∧ some k_ ≠ (v263 : Value).ownBlock ∧ some k_ ≠ (.slice Ao62 t272.length co62 : Value).ownBlock) (Kd.R_keptB ((Kd.R_apart' HO_9.out (Kd.R_typed HO_259000.out) (by decide))) hkp (fun k_ hk_ hs_ => (hk_.2) hs_)) (fun k_ hk_ => ⟨hk_.1.1.1.1, hk_.1.1.1.2, hk_.1.1.2⟩)); have n2_ := M_ (rm_ (ok' := fun k_ => some k_ ≠ (v251 : Value).ownBlock ∧ some k_ ≠ (.slice Ao37 t259.length co37 : Value).ownBlock ∧ some k_ ≠ (.slice Ao62 t272.length co62 : Value).ownBlock) (Kd.R_keptB ((Kd.R_apart' HO_10.out (Kd.R_typed HO_259000.out) (by decide))) hkp (fun k_ hk_ hs_ => (hk_.2) hs_)) (fun k_ hk_ => ⟨hk_.1.1.1.1, hk_.1.1.1.2, hk_.1.1.2⟩)); have n3_ := M_ (Kd.R_reok rfl hy0 (fun k_ e_ => HO_259000.out.1 k_ e_)); have n4_ := M_ (blk_kept (by (with_reducible repeat (first | refine kn_ ?_ _ | refine kd_ ?_ | refine ka_ ?_ _)); exact BK240.out) hkp (fun hs_ => (fun e_ => (Kd.R_ne HO_259000.out BK240.out (by decide)) e_) hs_)); have n5_ := M_ (blk_kept (by (with_reducible repeat (first | refine kn_ ?_ _ | refine kd_ ?_ | refine ka_ ?_ _)); exact BK258.out) hkp (fun hs_ => (fun e_ => (Kd.R_ne HO_259000.out BK258.out (by decide)) e_) hs_)); have n6_ := M_ (rm_ (ok' := fun k_ => some k_ ≠ (.slice Ao32 t254.length co32 : Value).ownBlock) (Kd.R_keptB (HO269.out) hkp (fun k_ hk_ hs_ => (hk_.2) hs_)) (fun k_ hk_ => hk_.1.2)); have n7_ := M_ (rm_ (ok' := fun k_ => some k_ ≠ (v251 : Value).ownBlock ∧ some k_ ≠ (.slice Ao37 t259.length co37 : Value).ownBlock ∧ some k_ ≠ (v263 : Value).ownBlock) (Kd.R_keptB ((Kd.R_apart' HO274.out (Kd.R_typed HO_259000.out) (by decide))) hkp (fun k_ hk_ hs_ => (hk_.2) hs_)) (fun k_ hk_ => ⟨hk_.1.1.1.1.2, hk_.1.1.1.2, hk_.1.1.2⟩)); have n8_ := M_ (hb); clear HO_6; clear HO_9; clear HO_10; clear HO_259000; clear BK240; clear BK258; clear HO269; clear HO274; clear HB; have HO_6 := n0_; have HO_9 := n1_; have HO_10 := n2_; have HO_259000 := n3_; have BK240 := n4_; have BK258 := n5_; have HO269 := n6_; have HO274 := n7_; have HB := n8_; clear n0_ n1_ n2_ n3_ n4_ n5_ n6_ n7_ n8_; (try clear hb); (try clear hkp); (try clear hy0)) | ((with_reducible refine gate_callee (f := 18) rfl ?_); refine goesL_ (some 69) rfl rfl Try.func18 (by kernel_rfl) rfl #[.slice Ao37 t259.length co37, .int .i64 t276] rfl (by (try simp only [List.map_toArray, List.map_cons, List.map_nil]); first | done | rfl | (simp only [List.length_drop, List.length_take]; rfl)) ?_; (with_reducible refine (laws_markNoteS.calls kj18 (fun k_ => some k_ = (.slice Ao37 t259.length co37 : Value).ownBlock) (.slice Ao37 t259.length co37) t259 t276 t278 t279 w _ ?side1 ?side2 A55.out).mono ?_); (case side1 => repeat (first | (with_reducible first | exact HB.out | apply ba_ | apply bn_ | apply b1_ | refine bs_ ?_ GE240.out | refine bs_ ?_ GE258.out) | exact HB.out)); (case side2 => exact Kd.R_tight rfl HO_9.out); rintro e w67 ⟨rfl, hy0, hb, hkp⟩; refine ⟨_, rfl, ?_⟩; have n0_ := M_ (rm_ (ok' := fun k_ => some k_ ≠ (.slice Ao37 t259.length co37 : Value).ownBlock ∧ some k_ ≠ (v263 : Value).ownBlock ∧ some k_ ≠ (.slice Ao62 t272.length co62 : Value).ownBlock) (Kd.R_keptB (HO_6.out) hkp (fun k_ hk_ hs_ => (hk_.1) hs_)) (fun k_ hk_ => ⟨hk_.1.1, hk_.1.2.1, hk_.1.2.2⟩)); have n1_ := M_ (Kd.R_reok rfl hy0 (fun k_ e_ => HO_9.out.1 k_ e_)); have n2_ := M_ (rm_ (ok' := fun k_ => some k_ ≠ (v251 : Value).ownBlock ∧ some k_ ≠ (.slice Ao37 t259.length co37 : Value).ownBlock ∧ some k_ ≠ (.slice Ao62 t272.length co62 : Value).ownBlock) (Kd.R_keptB (HO_10.out) hkp (fun k_ hk_ hs_ => (hk_.2.1) hs_)) (fun k_ hk_ => ⟨hk_.1.1, hk_.1.2.1, hk_.1.2.2⟩)); have n3_ := M_ (rm_ (ok' := fun k_ => some k_ ≠ (.slice Ao59 t267.length co59 : Value).ownBlock) (Kd.R_keptB ((Kd.R_apart' HO_259000.out (Kd.R_typed HO_9.out) (by decide))) hkp (fun k_ hk_ hs_ => (hk_.2) hs_)) (fun k_ hk_ => hk_.1.1.2)); have n4_ := M_ (blk_kept (by (with_reducible repeat (first | refine kn_ ?_ _ | refine kd_ ?_ | refine ka_ ?_ _)); exact BK240.out) hkp (fun hs_ => (fun e_ => (Kd.R_ne HO_9.out BK240.out (by decide)) e_) hs_)); have n5_ := M_ (blk_kept (by (with_reducible repeat (first | refine kn_ ?_ _ | refine kd_ ?_ | refine ka_ ?_ _)); exact BK258.out) hkp (fun hs_ => (fun e_ => (Kd.R_ne HO_9.out BK258.out (by decide)) e_) hs_)); have n6_ := M_ (rm_ (ok' := fun k_ => some k_ ≠ (.slice Ao32 t254.length co32 : Value).ownBlock) (Kd.R_keptB ((Kd.R_apart' HO269.out (Kd.R_typed HO_9.out) (by decide))) hkp (fun k_ hk_ hs_ => (hk_.2) hs_)) (fun k_ hk_ => hk_.1.1)); have n7_ := M_ (rm_ (ok' := fun k_ => some k_ ≠ (v251 : Value).ownBlock ∧ some k_ ≠ (.slice Ao37 t259.length co37 : Value).ownBlock ∧ some k_ ≠ (v263 : Value).ownBlock) (Kd.R_keptB (HO274.out) hkp (fun k_ hk_ hs_ => (hk_.2.1) hs_)) (fun k_ hk_ => ⟨hk_.1.1, hk_.1.2.1, hk_.1.2.2⟩)); have n8_ := M_ (hb); clear HO_6; clear HO_9; clear HO_10; clear HO_259000; clear BK240; clear BK258; clear HO269; clear HO274; clear HB; have HO_6 := n0_; have HO_9 := n1_; have HO_10 := n2_; have HO_259000 := n3_; have BK240 := n4_; have BK258 := n5_; have HO269 := n6_; have HO274 := n7_; have HB := n8_; clear n0_ n1_ n2_ n3_ n4_ n5_ n6_ n7_ n8_; (try clear hb); (try clear hkp); (try clear hy0)))
        (try simp only [Act.put, la_, lb_, lc_])
        go_cut [82] (fun v82 wc => ∃ (kq : Nat) (x82_55 : Bool), v82 = .bool x82_55 ∧ Aside0 (laws_FnExactPlayablePart.j1 kq l1 t250 t253 t262 x82_55 l0_0 a0_1 = some r) ∧ Aside0 (kq ≤ kj18) ∧ Aside0 (Kd.R k92 92 wc w.heap.size (fun k_ => some k_ ≠ (v263 : Value).ownBlock) v251 t250) ∧ Aside0 (Kd.R k92 92 wc w.heap.size (fun k_ => some k_ ≠ (v251 : Value).ownBlock) v263 t262) ∧ Aside0 (Kd.R (Kd.int .i64) 3 wc w.heap.size (fun _ => True) (.slice Ao32 t254.length co32) t277) ∧ Aside0 (wc.heap[gb240]? = some (.cells #[(.slice A0_0 l0_0.length c0_0), .int .i64 a0_1] 55 (0, 0))) ∧ Aside0 (wc.heap[gb258]? = some (.cells #[(.slice Ao32 t254.length co32), .int .i64 t257] 59 (0, 0))) ∧ Aside0 (Below w.heap.size w wc))
        case first =>
         have H := HC56.out
         clear HC56
         by_cases c68 : t278 < 0
         ·rw [if_pos c68] at H
          have c68b0 : decide (t278 < 0) = true := decide_eq_true c68
          clear c68
          (first | rw [c68b0] | (simp only [i64_w, i32_w]; rw [c68b0]) | skip)
          have H' := M_ H
          clear H
          go_wp2
          go_meet
          case rel => exact ⟨_, (true), (by first | rfl | (simp; done) | (simp [*]; done)), H', ⟨by have := HJ18.out; first | omega | exact Nat.le_refl _⟩, ⟨by (with_reducible repeat (first | apply ra_ | apply rn_ | apply rd_)); exact rm_ HO_6.out (fun _ hk => hk.2.1)⟩, ⟨by (with_reducible repeat (first | apply ra_ | apply rn_ | apply rd_)); exact rm_ HO_10.out (fun _ hk => hk.1)⟩, ⟨by (with_reducible repeat (first | apply ra_ | apply rn_ | apply rd_)); exact rm_ HO_259000.out (fun _ hk => trivial)⟩, ⟨by (with_reducible repeat (first | refine kn_ ?_ _ | refine kd_ ?_ | refine ka_ ?_ _)); exact BK240.out⟩, ⟨by (with_reducible repeat (first | refine kn_ ?_ _ | refine kd_ ?_ | refine ka_ ?_ _)); exact BK258.out⟩, ⟨by repeat (first | (with_reducible first | exact HB.out | apply ba_ | apply bn_ | apply b1_ | refine bs_ ?_ GE240.out | refine bs_ ?_ GE258.out) | exact HB.out)⟩⟩
         ·rw [if_neg c68] at H
          have c68b0 : decide (t278 < 0) = false := decide_eq_false c68
          clear c68
          (first | rw [c68b0] | (simp only [i64_w, i32_w]; rw [c68b0]) | skip)
          replace H := Option.bind_eq_some_iff.mp H
          obtain ⟨t280, A690, H⟩ := H
          replace H : (if t280 = true then (laws_FnExactPlayablePart.j1 kj18 l1 t250 t253 t262 (t265 != t253) l0_0 a0_1) else (laws_FnExactPlayablePart.j1 kj18 l1 t250 t253 t262 true l0_0 a0_1)) = some r := H
          have A69 := M_ A690
          clear A690
          by_cases c70 : t280 = true
          ·subst c70
           have H1 : (laws_FnExactPlayablePart.j1 kj18 l1 t250 t253 t262 (t265 != t253) l0_0 a0_1) = some r := by rw [if_pos rfl] at H; exact H
           clear H
           have H := H1
           clear H1
           have H' := M_ H
           clear H
           obtain ⟨Ao71, co71, eo71⟩ := Kd.R_slice HO_10.out
           subst eo71
           obtain ⟨Ao72, co72, eo72⟩ := Kd.R_slice HO_6.out
           subst eo72
           go_wp2_with (first | (go_at_call 17; (with_reducible refine (laws_eqNoteS.calls kj18 _ _ t262 _ _ t250 true _ ?side1 ?side2 ?side3 ?side4 A69.out).mono ?_); (case side1 => repeat (first | exact (Kd.R_reads' HO_10.out).2.2 | (with_reducible refine Kd.C_alloc ?_ _) | (with_reducible refine Kd.C_drewN ?_ _) | (with_reducible refine Kd.C_drew ?_))); (case side2 => exact (Kd.R_reads' HO_10.out).2.1); (case side3 => repeat (first | exact (Kd.R_reads' HO_6.out).2.2 | (with_reducible refine Kd.C_alloc ?_ _) | (with_reducible refine Kd.C_drewN ?_ _) | (with_reducible refine Kd.C_drew ?_))); (case side4 => exact (Kd.R_reads' HO_6.out).2.1); rintro e w73 ⟨rfl, hb⟩; have n0_ := M_ (rb_ (by (with_reducible repeat (first | apply ra_ | apply rn_ | apply rd_)); exact HO_6.out) hb); have n1_ := M_ (rb_ (by (with_reducible repeat (first | apply ra_ | apply rn_ | apply rd_)); exact HO_9.out) hb); have n2_ := M_ (rb_ (by (with_reducible repeat (first | apply ra_ | apply rn_ | apply rd_)); exact HO_10.out) hb); have n3_ := M_ (rb_ (by (with_reducible repeat (first | apply ra_ | apply rn_ | apply rd_)); exact HO_259000.out) hb); have n4_ := M_ (rb_ (by (with_reducible repeat (first | apply ra_ | apply rn_ | apply rd_)); exact HO269.out) hb); have n5_ := M_ (rb_ (by (with_reducible repeat (first | apply ra_ | apply rn_ | apply rd_)); exact HO274.out) hb); have n6_ := M_ (blk_below (g := gb240) (o := .cells #[.slice A0_0 l0_0.length c0_0, .int .i64 a0_1] 55 (0, 0)) (by (with_reducible repeat (first | refine kn_ ?_ _ | refine kd_ ?_ | refine ka_ ?_ _)); exact BK240.out) hb); have n7_ := M_ (blk_below (g := gb258) (o := .cells #[.slice Ao32 t254.length co32, .int .i64 t257] 59 (0, 0)) (by (with_reducible repeat (first | refine kn_ ?_ _ | refine kd_ ?_ | refine ka_ ?_ _)); exact BK258.out) hb); have n8_ := M_ (below_step (by repeat (first | (with_reducible first | exact HB.out | apply ba_ | apply bn_ | apply b1_ | refine bs_ ?_ GE240.out | refine bs_ ?_ GE258.out) | exact HB.out)) hb); clear HO_6; clear HO_9; clear HO_10; clear HO_259000; clear HO269; clear HO274; clear BK240; clear BK258; clear HB; have HO_6 := n0_; have HO_9 := n1_; have HO_10 := n2_; have HO_259000 := n3_; have HO269 := n4_; have HO274 := n5_; have BK240 := n6_; have BK258 := n7_; have HB := n8_; clear n0_ n1_ n2_ n3_ n4_ n5_ n6_ n7_ n8_; (try clear hb); (try clear hb2); (try clear hk); (try clear hi)))
           go_meet
           case rel => exact ⟨_, ((t265 != t253)), (by first | rfl | (simp; done) | (simp [*]; done)), H', ⟨by have := HJ18.out; first | omega | exact Nat.le_refl _⟩, ⟨by (with_reducible repeat (first | apply ra_ | apply rn_ | apply rd_)); exact rm_ HO_6.out (fun _ hk => hk.2.1)⟩, ⟨by (with_reducible repeat (first | apply ra_ | apply rn_ | apply rd_)); exact rm_ HO_10.out (fun _ hk => hk.1)⟩, ⟨by (with_reducible repeat (first | apply ra_ | apply rn_ | apply rd_)); exact rm_ HO_259000.out (fun _ hk => trivial)⟩, ⟨by (with_reducible repeat (first | refine kn_ ?_ _ | refine kd_ ?_ | refine ka_ ?_ _)); exact BK240.out⟩, ⟨by (with_reducible repeat (first | refine kn_ ?_ _ | refine kd_ ?_ | refine ka_ ?_ _)); exact BK258.out⟩, ⟨by repeat (first | (with_reducible first | exact HB.out | apply ba_ | apply bn_ | apply b1_ | refine bs_ ?_ GE240.out | refine bs_ ?_ GE258.out) | exact HB.out)⟩⟩
          ·replace c70 := Bool.eq_false_iff.mpr c70
           subst c70
           have H1 : (laws_FnExactPlayablePart.j1 kj18 l1 t250 t253 t262 true l0_0 a0_1) = some r := by rw [if_neg (show ¬ (false = true) by decide)] at H; exact H
           clear H
           have H := H1
           clear H1
           have H' := M_ H
           clear H
           obtain ⟨Ao74, co74, eo74⟩ := Kd.R_slice HO_10.out
           subst eo74
           obtain ⟨Ao75, co75, eo75⟩ := Kd.R_slice HO_6.out
           subst eo75
           go_wp2_with (first | (go_at_call 17; (with_reducible refine (laws_eqNoteS.calls kj18 _ _ t262 _ _ t250 false _ ?side1 ?side2 ?side3 ?side4 A69.out).mono ?_); (case side1 => repeat (first | exact (Kd.R_reads' HO_10.out).2.2 | (with_reducible refine Kd.C_alloc ?_ _) | (with_reducible refine Kd.C_drewN ?_ _) | (with_reducible refine Kd.C_drew ?_))); (case side2 => exact (Kd.R_reads' HO_10.out).2.1); (case side3 => repeat (first | exact (Kd.R_reads' HO_6.out).2.2 | (with_reducible refine Kd.C_alloc ?_ _) | (with_reducible refine Kd.C_drewN ?_ _) | (with_reducible refine Kd.C_drew ?_))); (case side4 => exact (Kd.R_reads' HO_6.out).2.1); rintro e w76 ⟨rfl, hb⟩; have n0_ := M_ (rb_ (by (with_reducible repeat (first | apply ra_ | apply rn_ | apply rd_)); exact HO_6.out) hb); have n1_ := M_ (rb_ (by (with_reducible repeat (first | apply ra_ | apply rn_ | apply rd_)); exact HO_9.out) hb); have n2_ := M_ (rb_ (by (with_reducible repeat (first | apply ra_ | apply rn_ | apply rd_)); exact HO_10.out) hb); have n3_ := M_ (rb_ (by (with_reducible repeat (first | apply ra_ | apply rn_ | apply rd_)); exact HO_259000.out) hb); have n4_ := M_ (rb_ (by (with_reducible repeat (first | apply ra_ | apply rn_ | apply rd_)); exact HO269.out) hb); have n5_ := M_ (rb_ (by (with_reducible repeat (first | apply ra_ | apply rn_ | apply rd_)); exact HO274.out) hb); have n6_ := M_ (blk_below (g := gb240) (o := .cells #[.slice A0_0 l0_0.length c0_0, .int .i64 a0_1] 55 (0, 0)) (by (with_reducible repeat (first | refine kn_ ?_ _ | refine kd_ ?_ | refine ka_ ?_ _)); exact BK240.out) hb); have n7_ := M_ (blk_below (g := gb258) (o := .cells #[.slice Ao32 t254.length co32, .int .i64 t257] 59 (0, 0)) (by (with_reducible repeat (first | refine kn_ ?_ _ | refine kd_ ?_ | refine ka_ ?_ _)); exact BK258.out) hb); have n8_ := M_ (below_step (by repeat (first | (with_reducible first | exact HB.out | apply ba_ | apply bn_ | apply b1_ | refine bs_ ?_ GE240.out | refine bs_ ?_ GE258.out) | exact HB.out)) hb); clear HO_6; clear HO_9; clear HO_10; clear HO_259000; clear HO269; clear HO274; clear BK240; clear BK258; clear HB; have HO_6 := n0_; have HO_9 := n1_; have HO_10 := n2_; have HO_259000 := n3_; have HO269 := n4_; have HO274 := n5_; have BK240 := n6_; have BK258 := n7_; have HB := n8_; clear n0_ n1_ n2_ n3_ n4_ n5_ n6_ n7_ n8_; (try clear hb); (try clear hb2); (try clear hk); (try clear hi)))
           go_meet
           case rel => exact ⟨_, (true), (by first | rfl | (simp; done) | (simp [*]; done)), H', ⟨by have := HJ18.out; first | omega | exact Nat.le_refl _⟩, ⟨by (with_reducible repeat (first | apply ra_ | apply rn_ | apply rd_)); exact rm_ HO_6.out (fun _ hk => hk.2.1)⟩, ⟨by (with_reducible repeat (first | apply ra_ | apply rn_ | apply rd_)); exact rm_ HO_10.out (fun _ hk => hk.1)⟩, ⟨by (with_reducible repeat (first | apply ra_ | apply rn_ | apply rd_)); exact rm_ HO_259000.out (fun _ hk => trivial)⟩, ⟨by (with_reducible repeat (first | refine kn_ ?_ _ | refine kd_ ?_ | refine ka_ ?_ _)); exact BK240.out⟩, ⟨by (with_reducible repeat (first | refine kn_ ?_ _ | refine kd_ ?_ | refine ka_ ?_ _)); exact BK258.out⟩, ⟨by repeat (first | (with_reducible first | exact HB.out | apply ba_ | apply bn_ | apply b1_ | refine bs_ ?_ GE240.out | refine bs_ ?_ GE258.out) | exact HB.out)⟩⟩
        case rest =>
         clear HC56
         try clear c1
         try clear p2
         try clear c3
         try clear c4
         try clear c4b0
         try clear c5
         try clear c6
         try clear c7
         try clear c9
         try clear c9b0
         try clear c13
         try clear c15
         try clear c17
         try clear c18
         try clear c33
         try clear c35
         try clear c37
         try clear c39
         try clear c40
         try clear c41
         try clear c42
         try clear c47
         try clear c50
         try clear c53
         try clear c64
         try clear c68
         try clear c68b0
         try clear c70
         try clear hcz11_0
         try clear hcz11_1
         try clear hcz21_0
         try clear hcz21_1
         try clear hcz23_0
         try clear hcz23_1
         try clear hcz29_0
         try clear hcz29_1
         try clear hcz34_0
         try clear hcz34_1
         try clear hcz36_0
         try clear hcz36_1
         try clear hcz65_0
         try clear hcz65_1
         try clear hcz6_0
         try clear hcz6_1
         try clear hfz11_0
         try clear hfz11_1
         try clear hfz21_0
         try clear hfz21_1
         try clear hfz23_0
         try clear hfz23_1
         try clear hfz29_0
         try clear hfz29_1
         try clear hfz34_0
         try clear hfz34_1
         try clear hfz36_0
         try clear hfz36_1
         try clear hfz65_0
         try clear hfz65_1
         try clear hfz6_0
         try clear hfz6_1
         try clear p2
         obtain ⟨kq, x82_55, rfl, HA, HJ55, HO_6, HO_10, HO_259000, BK240, BK258, HB⟩ := hcut
         have hl259000_55 := (Kd.R_reads' HO_259000.out).1
         rw [hl259000_55] at HO_259000
         (try simp only [hl259000_55])
         (try simp only [hl259000_55] at BK240)
         (try simp only [hl259000_55] at BK258)
         (try simp only [hl259000_55] at HO_6)
         (try simp only [hl259000_55] at HO_10)
         cases kq with
         | zero => exact absurd HA.out (by simp [laws_FnExactPlayablePart.j1])
         | succ kj55 =>
          have H := HA.out
          clear HA
          simp only [laws_FnExactPlayablePart.j1] at H
          by_cases c77 : x82_55 = true
          ·subst c77
           have H1 : (some false) = some r := by rw [if_pos rfl] at H; exact H
           clear H
           have H := H1
           clear H1
           obtain rfl := Option.some.inj H
           go_wp2
           go_ret
           exact ⟨by first | rfl | (simp [errW_none, errW_some] <;> rfl) | (simp [*, errW_none, errW_some] <;> rfl), by repeat (first | (with_reducible first | exact HB.out | apply ba_ | apply bn_ | apply b1_ | refine bs_ ?_ GE240.out | refine bs_ ?_ GE258.out) | exact HB.out)⟩
          ·replace c77 := Bool.eq_false_iff.mpr c77
           subst c77
           have H1 : ((laws_markNoteS.f kj55 t262 1).bind fun bt281 => ((laws_heldNoteS.f kj55 bt281.2 1).bind fun t283 => (if t283 < 0 then (some false) else (if t283 = bt281.1 then ((laws_toInstrument.f kj55 l0_0 a0_1).bind fun bt284 => ((laws_toNoteS.f kj55 l1).bind fun t288 => ((impl_PlayablePart.f kj55 bt284.1 bt284.2 t288).bind fun bt291 => ((laws_eqNoteS.f kj55 bt291.1 t250).bind fun t295 => (if t295 = true then (laws_FnExactPlayablePart.j2 kj55 bt281.2 bt281.1 (bt291.2 != t253)) else (laws_FnExactPlayablePart.j2 kj55 bt281.2 bt281.1 true)))))) else (some false))))) = some r := by rw [if_neg (show ¬ (false = true) by decide)] at H; exact H
           clear H
           have H := H1
           clear H1
           replace H := Option.bind_eq_some_iff.mp H
           obtain ⟨⟨t281, t282⟩, A780, H⟩ := H
           replace H : ((laws_heldNoteS.f kj55 t282 1).bind fun t283 => (if t283 < 0 then (some false) else (if t283 = t281 then ((laws_toInstrument.f kj55 l0_0 a0_1).bind fun bt284 => ((laws_toNoteS.f kj55 l1).bind fun t288 => ((impl_PlayablePart.f kj55 bt284.1 bt284.2 t288).bind fun bt291 => ((laws_eqNoteS.f kj55 bt291.1 t250).bind fun t295 => (if t295 = true then (laws_FnExactPlayablePart.j2 kj55 t282 t281 (bt291.2 != t253)) else (laws_FnExactPlayablePart.j2 kj55 t282 t281 true)))))) else (some false)))) = some r := H
           have A78 := M_ A780
           clear A780
           replace H := Option.bind_eq_some_iff.mp H
           obtain ⟨t283, A790, H⟩ := H
           replace H : (if t283 < 0 then (some false) else (if t283 = t281 then ((laws_toInstrument.f kj55 l0_0 a0_1).bind fun bt284 => ((laws_toNoteS.f kj55 l1).bind fun t288 => ((impl_PlayablePart.f kj55 bt284.1 bt284.2 t288).bind fun bt291 => ((laws_eqNoteS.f kj55 bt291.1 t250).bind fun t295 => (if t295 = true then (laws_FnExactPlayablePart.j2 kj55 t282 t281 (bt291.2 != t253)) else (laws_FnExactPlayablePart.j2 kj55 t282 t281 true)))))) else (some false))) = some r := H
           have A79 := M_ A790
           clear A790
           by_cases c80 : t283 < 0
           ·rw [if_pos c80] at H
            have c80b0 : decide (t283 < 0) = true := decide_eq_true c80
            clear c80
            obtain rfl := Option.some.inj H
            obtain ⟨Ao81, co81, eo81⟩ := Kd.R_slice HO_10.out
            subst eo81
            go_wp2_with (first | ((with_reducible refine gate_callee (f := 18) rfl ?_); refine goesL_ (some 85) rfl rfl Try.func18 (by kernel_rfl) rfl #[.slice Ao81 t262.length co81, .int .i64 1] rfl (by (try simp only [List.map_toArray, List.map_cons, List.map_nil]); first | done | rfl | (simp only [List.length_drop, List.length_take]; rfl)) ?_; (with_reducible refine (laws_markNoteS.calls kj55 (fun k_ => some k_ = (.slice Ao81 t262.length co81 : Value).ownBlock) (.slice Ao81 t262.length co81) t262 1 t281 t282 w _ ?side1 ?side2 A78.out).mono ?_); (case side1 => repeat (first | (with_reducible first | exact HB.out | apply ba_ | apply bn_ | apply b1_ | refine bs_ ?_ GE240.out | refine bs_ ?_ GE258.out) | exact HB.out)); (case side2 => exact Kd.R_tight rfl HO_10.out); rintro e w82 ⟨rfl, hy0, hb, hkp⟩; refine ⟨_, rfl, ?_⟩; have n0_ := M_ (rm_ (ok' := fun k_ => some k_ ≠ (.slice Ao81 t262.length co81 : Value).ownBlock) (Kd.R_keptB (HO_6.out) hkp (fun k_ hk_ hs_ => (hk_) hs_)) (fun k_ hk_ => hk_.1)); have n1_ := M_ (Kd.R_reok rfl hy0 (fun k_ e_ => HO_10.out.1 k_ e_)); have n2_ := M_ (rm_ (ok' := fun k_ => True) (Kd.R_keptB ((Kd.R_apart' HO_259000.out (Kd.R_typed HO_10.out) (by decide))) hkp (fun k_ hk_ hs_ => (hk_.2) hs_)) (fun k_ hk_ => trivial)); have n3_ := M_ (blk_kept (by (with_reducible repeat (first | refine kn_ ?_ _ | refine kd_ ?_ | refine ka_ ?_ _)); exact BK240.out) hkp (fun hs_ => (fun e_ => (Kd.R_ne HO_10.out BK240.out (by decide)) e_) hs_)); have n4_ := M_ (blk_kept (by (with_reducible repeat (first | refine kn_ ?_ _ | refine kd_ ?_ | refine ka_ ?_ _)); exact BK258.out) hkp (fun hs_ => (fun e_ => (Kd.R_ne HO_10.out BK258.out (by decide)) e_) hs_)); have n5_ := M_ (hb); clear HO_6; clear HO_10; clear HO_259000; clear BK240; clear BK258; clear HB; have HO_6 := n0_; have HO_10 := n1_; have HO_259000 := n2_; have BK240 := n3_; have BK258 := n4_; have HB := n5_; clear n0_ n1_ n2_ n3_ n4_ n5_; (try clear hb); (try clear hkp); (try clear hy0)) | ((with_reducible refine gate_callee (f := 19) rfl ?_); refine goesL_ (some 88) rfl rfl Try.func19 (by kernel_rfl) rfl #[.slice Ao81 t282.length co81, .int .i64 1] rfl (by (try simp only [List.map_toArray, List.map_cons, List.map_nil]); first | done | (rw [show t282.length = t262.length from (Kd.R_reads' HO_10.out).1.symm] <;> rfl) | rfl | (simp only [List.length_drop, List.length_take]; rfl)) ?_; (with_reducible refine (laws_heldNoteS.calls kj55 _ _ t282 1 t283 _ ?side1 ?side2 A79.out).mono ?_); (case side1 => repeat (first | exact (Kd.R_reads' HO_10.out).2.2 | (with_reducible refine Kd.C_alloc ?_ _) | (with_reducible refine Kd.C_drewN ?_ _) | (with_reducible refine Kd.C_drew ?_))); (case side2 => rw [show t282.length = t262.length from (Kd.R_reads' HO_10.out).1.symm]; exact (Kd.R_reads' HO_10.out).2.1); rintro e w' ⟨rfl, ⟨nd, rfl⟩⟩; refine ⟨_, rfl, ?_⟩))
            go_ret
            exact ⟨by first | rfl | (simp [errW_none, errW_some] <;> rfl) | (simp [*, errW_none, errW_some] <;> rfl), by repeat (first | (with_reducible first | exact HB.out | apply ba_ | apply bn_ | apply b1_ | refine bs_ ?_ GE240.out | refine bs_ ?_ GE258.out) | exact HB.out)⟩
           ·rw [if_neg c80] at H
            have c80b0 : decide (t283 < 0) = false := decide_eq_false c80
            clear c80
            by_cases c83 : t283 = t281
            ·rw [if_pos c83] at H
             have c83b0 : (t283 == t281) = true := beq_iff_eq.mpr c83
             have c83b1 : (t283 != t281) = false := bne_eq_false_iff_eq.mpr c83
             clear c83
             replace H := Option.bind_eq_some_iff.mp H
             obtain ⟨⟨t284, t287⟩, A840, H⟩ := H
             replace H : ((laws_toNoteS.f kj55 l1).bind fun t288 => ((impl_PlayablePart.f kj55 t284 t287 t288).bind fun bt291 => ((laws_eqNoteS.f kj55 bt291.1 t250).bind fun t295 => (if t295 = true then (laws_FnExactPlayablePart.j2 kj55 t282 t281 (bt291.2 != t253)) else (laws_FnExactPlayablePart.j2 kj55 t282 t281 true))))) = some r := H
             have A84 := M_ A840
             clear A840
             replace H := Option.bind_eq_some_iff.mp H
             obtain ⟨t288, A850, H⟩ := H
             replace H : ((impl_PlayablePart.f kj55 t284 t287 t288).bind fun bt291 => ((laws_eqNoteS.f kj55 bt291.1 t250).bind fun t295 => (if t295 = true then (laws_FnExactPlayablePart.j2 kj55 t282 t281 (bt291.2 != t253)) else (laws_FnExactPlayablePart.j2 kj55 t282 t281 true)))) = some r := H
             have A85 := M_ A850
             clear A850
             replace H := Option.bind_eq_some_iff.mp H
             obtain ⟨⟨t291, t294⟩, A860, H⟩ := H
             replace H : ((laws_eqNoteS.f kj55 t291 t250).bind fun t295 => (if t295 = true then (laws_FnExactPlayablePart.j2 kj55 t282 t281 (t294 != t253)) else (laws_FnExactPlayablePart.j2 kj55 t282 t281 true))) = some r := H
             have A86 := M_ A860
             clear A860
             have HC87 := M_ H
             clear H
             obtain ⟨Ao88, co88, eo88⟩ := Kd.R_slice HO_10.out
             subst eo88
             go_upto_region 32 with (first | ((with_reducible refine gate_callee (f := 18) rfl ?_); refine goesL_ (some 85) rfl rfl Try.func18 (by kernel_rfl) rfl #[.slice Ao88 t262.length co88, .int .i64 1] rfl (by (try simp only [List.map_toArray, List.map_cons, List.map_nil]); first | done | rfl | (simp only [List.length_drop, List.length_take]; rfl)) ?_; (with_reducible refine (laws_markNoteS.calls kj55 (fun k_ => some k_ = (.slice Ao88 t262.length co88 : Value).ownBlock) (.slice Ao88 t262.length co88) t262 1 t281 t282 w _ ?side1 ?side2 A78.out).mono ?_); (case side1 => repeat (first | (with_reducible first | exact HB.out | apply ba_ | apply bn_ | apply b1_ | refine bs_ ?_ GE240.out | refine bs_ ?_ GE258.out) | exact HB.out)); (case side2 => exact Kd.R_tight rfl HO_10.out); rintro e w89 ⟨rfl, hy0, hb, hkp⟩; refine ⟨_, rfl, ?_⟩; have n0_ := M_ (rm_ (ok' := fun k_ => some k_ ≠ (.slice Ao88 t262.length co88 : Value).ownBlock) (Kd.R_keptB (HO_6.out) hkp (fun k_ hk_ hs_ => (hk_) hs_)) (fun k_ hk_ => hk_.1)); have n1_ := M_ (Kd.R_reok rfl hy0 (fun k_ e_ => HO_10.out.1 k_ e_)); have n2_ := M_ (rm_ (ok' := fun k_ => True) (Kd.R_keptB ((Kd.R_apart' HO_259000.out (Kd.R_typed HO_10.out) (by decide))) hkp (fun k_ hk_ hs_ => (hk_.2) hs_)) (fun k_ hk_ => trivial)); have n3_ := M_ (blk_kept (by (with_reducible repeat (first | refine kn_ ?_ _ | refine kd_ ?_ | refine ka_ ?_ _)); exact BK240.out) hkp (fun hs_ => (fun e_ => (Kd.R_ne HO_10.out BK240.out (by decide)) e_) hs_)); have n4_ := M_ (blk_kept (by (with_reducible repeat (first | refine kn_ ?_ _ | refine kd_ ?_ | refine ka_ ?_ _)); exact BK258.out) hkp (fun hs_ => (fun e_ => (Kd.R_ne HO_10.out BK258.out (by decide)) e_) hs_)); have n5_ := M_ (hb); clear HO_6; clear HO_10; clear HO_259000; clear BK240; clear BK258; clear HB; have HO_6 := n0_; have HO_10 := n1_; have HO_259000 := n2_; have BK240 := n3_; have BK258 := n4_; have HB := n5_; clear n0_ n1_ n2_ n3_ n4_ n5_; (try clear hb); (try clear hkp); (try clear hy0)) | ((with_reducible refine gate_callee (f := 19) rfl ?_); refine goesL_ (some 88) rfl rfl Try.func19 (by kernel_rfl) rfl #[.slice Ao88 t282.length co88, .int .i64 1] rfl (by (try simp only [List.map_toArray, List.map_cons, List.map_nil]); first | done | (rw [show t282.length = t262.length from (Kd.R_reads' HO_10.out).1.symm] <;> rfl) | rfl | (simp only [List.length_drop, List.length_take]; rfl)) ?_; (with_reducible refine (laws_heldNoteS.calls kj55 _ _ t282 1 t283 _ ?side1 ?side2 A79.out).mono ?_); (case side1 => repeat (first | exact (Kd.R_reads' HO_10.out).2.2 | (with_reducible refine Kd.C_alloc ?_ _) | (with_reducible refine Kd.C_drewN ?_ _) | (with_reducible refine Kd.C_drew ?_))); (case side2 => rw [show t282.length = t262.length from (Kd.R_reads' HO_10.out).1.symm]; exact (Kd.R_reads' HO_10.out).2.1); rintro e w' ⟨rfl, ⟨nd, rfl⟩⟩; refine ⟨_, rfl, ?_⟩; have hnb90 := NB240_258.out; have hnc90 := NB258_240.out; have hcz91_0 : w89.cell? ⟨gb240, 0, none⟩ = some (.slice A0_0 l0_0.length c0_0) := (blk_cell BK240.out 0).trans rfl; have hcz91_1 : w89.cell? ⟨gb240, 1, none⟩ = some (.int .i64 a0_1) := (blk_cell BK240.out 1).trans rfl; have hfz91_0 := blk_frozen BK240.out 0; have hfz91_1 := blk_frozen BK240.out 1) | ((with_reducible refine gate_callee (f := 37) rfl ?_); refine goesL_ (some 96) rfl rfl Try.func37 (by kernel_rfl) rfl #[.agg #[.slice A0_0 l0_0.length c0_0, .int .i64 a0_1]] rfl (by (try simp only [List.map_toArray, List.map_cons, List.map_nil]); first | done | rfl | (simp only [List.length_drop, List.length_take]; rfl)) ?_; (with_reducible refine (laws_toInstrument.calls kj55 _ _ l0_0 a0_1 t284 t287 _ ?side1 ?side2 A84.out).mono ?_); (case side1 => repeat (first | exact (Kd.C_below HR0_0.out (by repeat (first | (with_reducible first | exact HB.out | apply ba_ | apply bn_ | apply b1_ | refine bs_ ?_ GE240.out | refine bs_ ?_ GE258.out) | exact HB.out))) | (with_reducible refine Kd.C_alloc ?_ _) | (with_reducible refine Kd.C_drewN ?_ _) | (with_reducible refine Kd.C_drew ?_))); (case side2 => exact HC0_0.out); rintro e w92 ⟨v285, rfl, ho0, hb⟩; refine ⟨_, rfl, ?_⟩; have n0_ := M_ (rb_ (by (with_reducible repeat (first | apply ra_ | apply rn_ | apply rd_)); exact HO_6.out) hb); have n1_ := M_ (rb_ (by (with_reducible repeat (first | apply ra_ | apply rn_ | apply rd_)); exact HO_10.out) hb); have n2_ := M_ (Kd.R_elder' (by (with_reducible repeat (first | apply ra_ | apply rn_ | apply rd_)); exact HO_259000.out) (Kd.R_base ho0) hb); have n3_ := M_ (Kd.R_lower (Kd.R_new' ho0 (Kd.R_lt (by (with_reducible repeat (first | apply ra_ | apply rn_ | apply rd_)); exact HO_259000.out))) (below_size (by repeat (first | (with_reducible first | exact HB.out | apply ba_ | apply bn_ | apply b1_ | refine bs_ ?_ GE240.out | refine bs_ ?_ GE258.out) | exact HB.out)))); have n4_ := M_ (blk_below (g := gb240) (o := .cells #[.slice A0_0 l0_0.length c0_0, .int .i64 a0_1] 55 (0, 0)) (by (with_reducible repeat (first | refine kn_ ?_ _ | refine kd_ ?_ | refine ka_ ?_ _)); exact BK240.out) hb); have n5_ := M_ (blk_below (g := gb258) (o := .cells #[.slice Ao32 t277.length co32, .int .i64 t257] 59 (0, 0)) (by (with_reducible repeat (first | refine kn_ ?_ _ | refine kd_ ?_ | refine ka_ ?_ _)); exact BK258.out) hb); have n6_ := M_ (below_step (by repeat (first | (with_reducible first | exact HB.out | apply ba_ | apply bn_ | apply b1_ | refine bs_ ?_ GE240.out | refine bs_ ?_ GE258.out) | exact HB.out)) hb); clear HO_6; clear HO_10; clear HO_259000; clear BK240; clear BK258; clear HB; have HO_6 := n0_; have HO_10 := n1_; have HO_259000 := n2_; have HO286 := n3_; have BK240 := n4_; have BK258 := n5_; have HB := n6_; clear n0_ n1_ n2_ n3_ n4_ n5_ n6_; (try clear hb); (try clear hb2); (try clear hk); (try clear hi); (try clear ho0)) | ((with_reducible refine gate_callee (f := 15) rfl ?_); refine goesL_ (some 98) rfl rfl Try.func15 (by kernel_rfl) rfl #[.slice A1 l1.length c1] rfl (by (try simp only [List.map_toArray, List.map_cons, List.map_nil]); first | done | rfl | (simp only [List.length_drop, List.length_take]; rfl)) ?_; (with_reducible refine (laws_toNoteS.calls kj55 _ _ l1 t288 _ ?side1 ?side2 A85.out).mono ?_); (case side1 => repeat (first | exact (Kd.C_below HR1.out HB.out) | (with_reducible refine Kd.C_alloc ?_ _) | (with_reducible refine Kd.C_drewN ?_ _) | (with_reducible refine Kd.C_drew ?_))); (case side2 => exact HC1.out); rintro e w93 ⟨v289, rfl, ho0, hb⟩; refine ⟨_, rfl, ?_⟩; have n0_ := M_ (Kd.R_elder' (by (with_reducible repeat (first | apply ra_ | apply rn_ | apply rd_)); exact HO_6.out) (Kd.R_base ho0) hb); have n1_ := M_ (Kd.R_elder' (by (with_reducible repeat (first | apply ra_ | apply rn_ | apply rd_)); exact HO_10.out) (Kd.R_base ho0) hb); have n2_ := M_ (rb_ (by (with_reducible repeat (first | apply ra_ | apply rn_ | apply rd_)); exact HO_259000.out) hb); have n3_ := M_ (rb_ (by (with_reducible repeat (first | apply ra_ | apply rn_ | apply rd_)); exact HO286.out) hb); have n4_ := M_ (Kd.R_lower (Kd.R_new' (Kd.R_new' ho0 (Kd.R_lt (by (with_reducible repeat (first | apply ra_ | apply rn_ | apply rd_)); exact HO_6.out))) (Kd.R_lt (by (with_reducible repeat (first | apply ra_ | apply rn_ | apply rd_)); exact HO_10.out))) (below_size (by repeat (first | (with_reducible first | exact HB.out | apply ba_ | apply bn_ | apply b1_ | refine bs_ ?_ GE240.out | refine bs_ ?_ GE258.out) | exact HB.out)))); have n5_ := M_ (blk_below (g := gb240) (o := .cells #[.slice A0_0 l0_0.length c0_0, .int .i64 a0_1] 55 (0, 0)) (by (with_reducible repeat (first | refine kn_ ?_ _ | refine kd_ ?_ | refine ka_ ?_ _)); exact BK240.out) hb); have n6_ := M_ (blk_below (g := gb258) (o := .cells #[.slice Ao32 t277.length co32, .int .i64 t257] 59 (0, 0)) (by (with_reducible repeat (first | refine kn_ ?_ _ | refine kd_ ?_ | refine ka_ ?_ _)); exact BK258.out) hb); have n7_ := M_ (below_step (by repeat (first | (with_reducible first | exact HB.out | apply ba_ | apply bn_ | apply b1_ | refine bs_ ?_ GE240.out | refine bs_ ?_ GE258.out) | exact HB.out)) hb); clear HO_6; clear HO_10; clear HO_259000; clear HO286; clear BK240; clear BK258; clear HB; have HO_6 := n0_; have HO_10 := n1_; have HO_259000 := n2_; have HO286 := n3_; have HO290 := n4_; have BK240 := n5_; have BK258 := n6_; have HB := n7_; clear n0_ n1_ n2_ n3_ n4_ n5_ n6_ n7_; (try clear hb); (try clear hb2); (try clear hk); (try clear hi); (try clear ho0); obtain ⟨Ao94, co94, eo94⟩ := Kd.R_slice HO286.out; subst eo94; obtain ⟨Ao95, co95, eo95⟩ := Kd.R_slice HO290.out; subst eo95) | ((with_reducible refine gate_callee (f := 41) rfl ?_); refine goesL_ (some 99) rfl rfl Try.func41 (by kernel_rfl) rfl #[.agg #[.slice Ao94 t284.length co94, .int .i64 t287], .slice Ao95 t288.length co95] rfl (by (try simp only [List.map_toArray, List.map_cons, List.map_nil]); first | done | rfl | (simp only [List.length_drop, List.length_take]; rfl)) ?_; (with_reducible refine (impl_PlayablePart.calls kj55 _ _ t284 t287 _ _ t288 t291 t294 _ ?side1 ?side2 ?side3 ?side4 A86.out).mono ?_); (case side1 => repeat (first | exact (Kd.R_reads' HO286.out).2.2 | (with_reducible refine Kd.C_alloc ?_ _) | (with_reducible refine Kd.C_drewN ?_ _) | (with_reducible refine Kd.C_drew ?_))); (case side2 => exact (Kd.R_reads' HO286.out).2.1); (case side3 => repeat (first | exact (Kd.R_reads' HO290.out).2.2 | (with_reducible refine Kd.C_alloc ?_ _) | (with_reducible refine Kd.C_drewN ?_ _) | (with_reducible refine Kd.C_drew ?_))); (case side4 => exact (Kd.R_reads' HO290.out).2.1); rintro e w96 ⟨v292, rfl, ho0, hb⟩; refine ⟨_, rfl, ?_⟩; have n0_ := M_ (Kd.R_elder' (by (with_reducible repeat (first | apply ra_ | apply rn_ | apply rd_)); exact HO_6.out) (Kd.R_base ho0) hb); have n1_ := M_ (Kd.R_elder' (by (with_reducible repeat (first | apply ra_ | apply rn_ | apply rd_)); exact HO_10.out) (Kd.R_base ho0) hb); have n2_ := M_ (rb_ (by (with_reducible repeat (first | apply ra_ | apply rn_ | apply rd_)); exact HO_259000.out) hb); have n3_ := M_ (rb_ (by (with_reducible repeat (first | apply ra_ | apply rn_ | apply rd_)); exact HO286.out) hb); have n4_ := M_ (Kd.R_elder' (by (with_reducible repeat (first | apply ra_ | apply rn_ | apply rd_)); exact HO290.out) (Kd.R_base ho0) hb); have n5_ := M_ (Kd.R_lower (Kd.R_new' (Kd.R_new' (Kd.R_new' ho0 (Kd.R_lt (by (with_reducible repeat (first | apply ra_ | apply rn_ | apply rd_)); exact HO_6.out))) (Kd.R_lt (by (with_reducible repeat (first | apply ra_ | apply rn_ | apply rd_)); exact HO_10.out))) (Kd.R_lt (by (with_reducible repeat (first | apply ra_ | apply rn_ | apply rd_)); exact HO290.out))) (below_size (by repeat (first | (with_reducible first | exact HB.out | apply ba_ | apply bn_ | apply b1_ | refine bs_ ?_ GE240.out | refine bs_ ?_ GE258.out) | exact HB.out)))); have n6_ := M_ (blk_below (g := gb240) (o := .cells #[.slice A0_0 l0_0.length c0_0, .int .i64 a0_1] 55 (0, 0)) (by (with_reducible repeat (first | refine kn_ ?_ _ | refine kd_ ?_ | refine ka_ ?_ _)); exact BK240.out) hb); have n7_ := M_ (blk_below (g := gb258) (o := .cells #[.slice Ao32 t277.length co32, .int .i64 t257] 59 (0, 0)) (by (with_reducible repeat (first | refine kn_ ?_ _ | refine kd_ ?_ | refine ka_ ?_ _)); exact BK258.out) hb); have n8_ := M_ (below_step (by repeat (first | (with_reducible first | exact HB.out | apply ba_ | apply bn_ | apply b1_ | refine bs_ ?_ GE240.out | refine bs_ ?_ GE258.out) | exact HB.out)) hb); clear HO_6; clear HO_10; clear HO_259000; clear HO286; clear HO290; clear BK240; clear BK258; clear HB; have HO_6 := n0_; have HO_10 := n1_; have HO_259000 := n2_; have HO286 := n3_; have HO290 := n4_; have HO293 := n5_; have BK240 := n6_; have BK258 := n7_; have HB := n8_; clear n0_ n1_ n2_ n3_ n4_ n5_ n6_ n7_ n8_; (try clear hb); (try clear hb2); (try clear hk); (try clear hi); (try clear ho0)))
             (try simp only [Act.put, la_, lb_, lc_])
             go_cut [110] (fun v110 wc => ∃ (kq : Nat) (x110_86 : Bool), v110 = .bool x110_86 ∧ Aside0 (laws_FnExactPlayablePart.j2 kq t282 t281 x110_86 = some r) ∧ Aside0 (kq ≤ kj55) ∧ Aside0 (Kd.R k92 92 wc w.heap.size (fun _ => True) (.slice Ao88 t262.length co88) t282) ∧ Aside0 (Kd.R (Kd.int .i64) 3 wc w.heap.size (fun _ => True) (.slice Ao32 t277.length co32) t277) ∧ Aside0 (wc.heap[gb240]? = some (.cells #[(.slice A0_0 l0_0.length c0_0), .int .i64 a0_1] 55 (0, 0))) ∧ Aside0 (wc.heap[gb258]? = some (.cells #[(.slice Ao32 t277.length co32), .int .i64 t257] 59 (0, 0))) ∧ Aside0 (Below w.heap.size w wc))
             case first =>
              have H := HC87.out
              clear HC87
              replace H := Option.bind_eq_some_iff.mp H
              obtain ⟨t295, A970, H⟩ := H
              replace H : (if t295 = true then (laws_FnExactPlayablePart.j2 kj55 t282 t281 (t294 != t253)) else (laws_FnExactPlayablePart.j2 kj55 t282 t281 true)) = some r := H
              have A97 := M_ A970
              clear A970
              by_cases c98 : t295 = true
              ·subst c98
               have H1 : (laws_FnExactPlayablePart.j2 kj55 t282 t281 (t294 != t253)) = some r := by rw [if_pos rfl] at H; exact H
               clear H
               have H := H1
               clear H1
               have H' := M_ H
               clear H
               obtain ⟨Ao99, co99, eo99⟩ := Kd.R_slice HO293.out
               subst eo99
               obtain ⟨Ao100, co100, eo100⟩ := Kd.R_slice HO_6.out
               subst eo100
               go_wp2_with (first | ((with_reducible refine gate_callee (f := 17) rfl ?_); refine goesL_ (some 104) rfl rfl Try.func17 (by kernel_rfl) rfl #[.slice Ao99 t291.length co99, .slice Ao100 t250.length co100] rfl (by (try simp only [List.map_toArray, List.map_cons, List.map_nil]); first | done | rfl | (simp only [List.length_drop, List.length_take]; rfl)) ?_; (with_reducible refine (laws_eqNoteS.calls kj55 _ _ t291 _ _ t250 true _ ?side1 ?side2 ?side3 ?side4 A97.out).mono ?_); (case side1 => repeat (first | exact (Kd.R_reads' HO293.out).2.2 | (with_reducible refine Kd.C_alloc ?_ _) | (with_reducible refine Kd.C_drewN ?_ _) | (with_reducible refine Kd.C_drew ?_))); (case side2 => exact (Kd.R_reads' HO293.out).2.1); (case side3 => repeat (first | exact (Kd.R_reads' HO_6.out).2.2 | (with_reducible refine Kd.C_alloc ?_ _) | (with_reducible refine Kd.C_drewN ?_ _) | (with_reducible refine Kd.C_drew ?_))); (case side4 => exact (Kd.R_reads' HO_6.out).2.1); rintro e w101 ⟨rfl, hb⟩; refine ⟨_, rfl, ?_⟩; have n0_ := M_ (rb_ (by (with_reducible repeat (first | apply ra_ | apply rn_ | apply rd_)); exact HO_6.out) hb); have n1_ := M_ (rb_ (by (with_reducible repeat (first | apply ra_ | apply rn_ | apply rd_)); exact HO_10.out) hb); have n2_ := M_ (rb_ (by (with_reducible repeat (first | apply ra_ | apply rn_ | apply rd_)); exact HO_259000.out) hb); have n3_ := M_ (rb_ (by (with_reducible repeat (first | apply ra_ | apply rn_ | apply rd_)); exact HO286.out) hb); have n4_ := M_ (rb_ (by (with_reducible repeat (first | apply ra_ | apply rn_ | apply rd_)); exact HO290.out) hb); have n5_ := M_ (rb_ (by (with_reducible repeat (first | apply ra_ | apply rn_ | apply rd_)); exact HO293.out) hb); have n6_ := M_ (blk_below (g := gb240) (o := .cells #[.slice A0_0 l0_0.length c0_0, .int .i64 a0_1] 55 (0, 0)) (by (with_reducible repeat (first | refine kn_ ?_ _ | refine kd_ ?_ | refine ka_ ?_ _)); exact BK240.out) hb); have n7_ := M_ (blk_below (g := gb258) (o := .cells #[.slice Ao32 t277.length co32, .int .i64 t257] 59 (0, 0)) (by (with_reducible repeat (first | refine kn_ ?_ _ | refine kd_ ?_ | refine ka_ ?_ _)); exact BK258.out) hb); have n8_ := M_ (below_step (by repeat (first | (with_reducible first | exact HB.out | apply ba_ | apply bn_ | apply b1_ | refine bs_ ?_ GE240.out | refine bs_ ?_ GE258.out) | exact HB.out)) hb); clear HO_6; clear HO_10; clear HO_259000; clear HO286; clear HO290; clear HO293; clear BK240; clear BK258; clear HB; have HO_6 := n0_; have HO_10 := n1_; have HO_259000 := n2_; have HO286 := n3_; have HO290 := n4_; have HO293 := n5_; have BK240 := n6_; have BK258 := n7_; have HB := n8_; clear n0_ n1_ n2_ n3_ n4_ n5_ n6_ n7_ n8_; (try clear hb); (try clear hb2); (try clear hk); (try clear hi)))
               go_meet
               case rel => exact ⟨_, ((t294 != t253)), (by first | rfl | (simp; done) | (simp [*]; done)), H', ⟨by have := HJ18.out; have := HJ55.out; first | omega | exact Nat.le_refl _⟩, ⟨by (try simp only [hl259000_55]); (with_reducible repeat (first | apply ra_ | apply rn_ | apply rd_)); exact rm_ HO_10.out (fun _ hk => trivial)⟩, ⟨by (try simp only [hl259000_55]); (with_reducible repeat (first | apply ra_ | apply rn_ | apply rd_)); exact rm_ HO_259000.out (fun _ hk => trivial)⟩, ⟨by (try simp only [hl259000_55]); (with_reducible repeat (first | refine kn_ ?_ _ | refine kd_ ?_ | refine ka_ ?_ _)); exact BK240.out⟩, ⟨by (try simp only [hl259000_55]); (with_reducible repeat (first | refine kn_ ?_ _ | refine kd_ ?_ | refine ka_ ?_ _)); exact BK258.out⟩, ⟨by repeat (first | (with_reducible first | exact HB.out | apply ba_ | apply bn_ | apply b1_ | refine bs_ ?_ GE240.out | refine bs_ ?_ GE258.out) | exact HB.out)⟩⟩
              ·replace c98 := Bool.eq_false_iff.mpr c98
               subst c98
               have H1 : (laws_FnExactPlayablePart.j2 kj55 t282 t281 true) = some r := by rw [if_neg (show ¬ (false = true) by decide)] at H; exact H
               clear H
               have H := H1
               clear H1
               have H' := M_ H
               clear H
               obtain ⟨Ao102, co102, eo102⟩ := Kd.R_slice HO293.out
               subst eo102
               obtain ⟨Ao103, co103, eo103⟩ := Kd.R_slice HO_6.out
               subst eo103
               go_wp2_with (first | ((with_reducible refine gate_callee (f := 17) rfl ?_); refine goesL_ (some 104) rfl rfl Try.func17 (by kernel_rfl) rfl #[.slice Ao102 t291.length co102, .slice Ao103 t250.length co103] rfl (by (try simp only [List.map_toArray, List.map_cons, List.map_nil]); first | done | rfl | (simp only [List.length_drop, List.length_take]; rfl)) ?_; (with_reducible refine (laws_eqNoteS.calls kj55 _ _ t291 _ _ t250 false _ ?side1 ?side2 ?side3 ?side4 A97.out).mono ?_); (case side1 => repeat (first | exact (Kd.R_reads' HO293.out).2.2 | (with_reducible refine Kd.C_alloc ?_ _) | (with_reducible refine Kd.C_drewN ?_ _) | (with_reducible refine Kd.C_drew ?_))); (case side2 => exact (Kd.R_reads' HO293.out).2.1); (case side3 => repeat (first | exact (Kd.R_reads' HO_6.out).2.2 | (with_reducible refine Kd.C_alloc ?_ _) | (with_reducible refine Kd.C_drewN ?_ _) | (with_reducible refine Kd.C_drew ?_))); (case side4 => exact (Kd.R_reads' HO_6.out).2.1); rintro e w104 ⟨rfl, hb⟩; refine ⟨_, rfl, ?_⟩; have n0_ := M_ (rb_ (by (with_reducible repeat (first | apply ra_ | apply rn_ | apply rd_)); exact HO_6.out) hb); have n1_ := M_ (rb_ (by (with_reducible repeat (first | apply ra_ | apply rn_ | apply rd_)); exact HO_10.out) hb); have n2_ := M_ (rb_ (by (with_reducible repeat (first | apply ra_ | apply rn_ | apply rd_)); exact HO_259000.out) hb); have n3_ := M_ (rb_ (by (with_reducible repeat (first | apply ra_ | apply rn_ | apply rd_)); exact HO286.out) hb); have n4_ := M_ (rb_ (by (with_reducible repeat (first | apply ra_ | apply rn_ | apply rd_)); exact HO290.out) hb); have n5_ := M_ (rb_ (by (with_reducible repeat (first | apply ra_ | apply rn_ | apply rd_)); exact HO293.out) hb); have n6_ := M_ (blk_below (g := gb240) (o := .cells #[.slice A0_0 l0_0.length c0_0, .int .i64 a0_1] 55 (0, 0)) (by (with_reducible repeat (first | refine kn_ ?_ _ | refine kd_ ?_ | refine ka_ ?_ _)); exact BK240.out) hb); have n7_ := M_ (blk_below (g := gb258) (o := .cells #[.slice Ao32 t277.length co32, .int .i64 t257] 59 (0, 0)) (by (with_reducible repeat (first | refine kn_ ?_ _ | refine kd_ ?_ | refine ka_ ?_ _)); exact BK258.out) hb); have n8_ := M_ (below_step (by repeat (first | (with_reducible first | exact HB.out | apply ba_ | apply bn_ | apply b1_ | refine bs_ ?_ GE240.out | refine bs_ ?_ GE258.out) | exact HB.out)) hb); clear HO_6; clear HO_10; clear HO_259000; clear HO286; clear HO290; clear HO293; clear BK240; clear BK258; clear HB; have HO_6 := n0_; have HO_10 := n1_; have HO_259000 := n2_; have HO286 := n3_; have HO290 := n4_; have HO293 := n5_; have BK240 := n6_; have BK258 := n7_; have HB := n8_; clear n0_ n1_ n2_ n3_ n4_ n5_ n6_ n7_ n8_; (try clear hb); (try clear hb2); (try clear hk); (try clear hi)))
               go_meet
               case rel => exact ⟨_, (true), (by first | rfl | (simp; done) | (simp [*]; done)), H', ⟨by have := HJ18.out; have := HJ55.out; first | omega | exact Nat.le_refl _⟩, ⟨by (try simp only [hl259000_55]); (with_reducible repeat (first | apply ra_ | apply rn_ | apply rd_)); exact rm_ HO_10.out (fun _ hk => trivial)⟩, ⟨by (try simp only [hl259000_55]); (with_reducible repeat (first | apply ra_ | apply rn_ | apply rd_)); exact rm_ HO_259000.out (fun _ hk => trivial)⟩, ⟨by (try simp only [hl259000_55]); (with_reducible repeat (first | refine kn_ ?_ _ | refine kd_ ?_ | refine ka_ ?_ _)); exact BK240.out⟩, ⟨by (try simp only [hl259000_55]); (with_reducible repeat (first | refine kn_ ?_ _ | refine kd_ ?_ | refine ka_ ?_ _)); exact BK258.out⟩, ⟨by repeat (first | (with_reducible first | exact HB.out | apply ba_ | apply bn_ | apply b1_ | refine bs_ ?_ GE240.out | refine bs_ ?_ GE258.out) | exact HB.out)⟩⟩
             case rest =>
              clear HC87
              try clear c1
              try clear p2
              try clear c3
              try clear c4
              try clear c4b0
              try clear c5
              try clear c6
              try clear c7
              try clear c8
              try clear c9
              try clear c9b0
              try clear c13
              try clear c15
              try clear c17
              try clear c18
              try clear c19
              try clear c33
              try clear c35
              try clear c37
              try clear c39
              try clear c40
              try clear c41
              try clear c42
              try clear c47
              try clear c50
              try clear c53
              try clear c64
              try clear c68
              try clear c68b0
              try clear c70
              try clear c77
              try clear c80
              try clear c80b0
              try clear c83
              try clear c83b0
              try clear c83b1
              try clear c90
              try clear c98
              try clear hcz11_0
              try clear hcz11_1
              try clear hcz21_0
              try clear hcz21_1
              try clear hcz23_0
              try clear hcz23_1
              try clear hcz29_0
              try clear hcz29_1
              try clear hcz34_0
              try clear hcz34_1
              try clear hcz36_0
              try clear hcz36_1
              try clear hcz65_0
              try clear hcz65_1
              try clear hcz6_0
              try clear hcz6_1
              try clear hcz91_0
              try clear hcz91_1
              try clear hfz11_0
              try clear hfz11_1
              try clear hfz21_0
              try clear hfz21_1
              try clear hfz23_0
              try clear hfz23_1
              try clear hfz29_0
              try clear hfz29_1
              try clear hfz34_0
              try clear hfz34_1
              try clear hfz36_0
              try clear hfz36_1
              try clear hfz65_0
              try clear hfz65_1
              try clear hfz6_0
              try clear hfz6_1
              try clear hfz91_0
              try clear hfz91_1
              try clear p2
              obtain ⟨kq, x110_86, rfl, HA, HJ86, HO_10, HO_259000, BK240, BK258, HB⟩ := hcut
              have hl10_86 := (Kd.R_reads' HO_10.out).1
              rw [hl10_86] at HO_10
              (try simp only [hl10_86])
              (try simp only [hl10_86] at BK240)
              (try simp only [hl10_86] at BK258)
              (try simp only [hl10_86] at HO_259000)
              cases kq with
              | zero => exact absurd HA.out (by simp [laws_FnExactPlayablePart.j2])
              | succ kj86 =>
               have H := HA.out
               clear HA
               simp only [laws_FnExactPlayablePart.j2] at H
               by_cases c105 : x110_86 = true
               ·subst c105
                have H1 : (some false) = some r := by rw [if_pos rfl] at H; exact H
                clear H
                have H := H1
                clear H1
                obtain rfl := Option.some.inj H
                go_wp2
                go_ret
                exact ⟨by first | rfl | (simp [errW_none, errW_some] <;> rfl) | (simp [*, errW_none, errW_some] <;> rfl), by repeat (first | (with_reducible first | exact HB.out | apply ba_ | apply bn_ | apply b1_ | refine bs_ ?_ GE240.out | refine bs_ ?_ GE258.out) | exact HB.out)⟩
               ·replace c105 := Bool.eq_false_iff.mpr c105
                subst c105
                have H1 : ((laws_heldNoteS.f kj86 t282 1).bind fun t296 => (if t296 < 0 then (some false) else (if t296 = t281 then (some true) else (some false)))) = some r := by rw [if_neg (show ¬ (false = true) by decide)] at H; exact H
                clear H
                have H := H1
                clear H1
                replace H := Option.bind_eq_some_iff.mp H
                obtain ⟨t296, A1060, H⟩ := H
                replace H : (if t296 < 0 then (some false) else (if t296 = t281 then (some true) else (some false))) = some r := H
                have A106 := M_ A1060
                clear A1060
                by_cases c107 : t296 < 0
                ·rw [if_pos c107] at H
                 have c107b0 : decide (t296 < 0) = true := decide_eq_true c107
                 clear c107
                 obtain rfl := Option.some.inj H
                 go_wp2_with (first | ((with_reducible refine gate_callee (f := 19) rfl ?_); refine goesL_ (some 113) rfl rfl Try.func19 (by kernel_rfl) rfl #[.slice Ao88 t282.length co88, .int .i64 1] rfl (by (try simp only [List.map_toArray, List.map_cons, List.map_nil]); first | done | rfl | (simp only [List.length_drop, List.length_take]; rfl)) ?_; (with_reducible refine (laws_heldNoteS.calls kj86 _ _ t282 1 t296 _ ?side1 ?side2 A106.out).mono ?_); (case side1 => repeat (first | exact (Kd.R_reads' HO_10.out).2.2 | (with_reducible refine Kd.C_alloc ?_ _) | (with_reducible refine Kd.C_drewN ?_ _) | (with_reducible refine Kd.C_drew ?_))); (case side2 => exact (Kd.R_reads' HO_10.out).2.1); rintro e w' ⟨rfl, ⟨nd, rfl⟩⟩; refine ⟨_, rfl, ?_⟩))
                 go_ret
                 exact ⟨by first | rfl | (simp [errW_none, errW_some] <;> rfl) | (simp [*, errW_none, errW_some] <;> rfl), by repeat (first | (with_reducible first | exact HB.out | apply ba_ | apply bn_ | apply b1_ | refine bs_ ?_ GE240.out | refine bs_ ?_ GE258.out) | exact HB.out)⟩
                ·rw [if_neg c107] at H
                 have c107b0 : decide (t296 < 0) = false := decide_eq_false c107
                 clear c107
                 by_cases c108 : t296 = t281
                 ·rw [if_pos c108] at H
                  have c108b0 : (t296 == t281) = true := beq_iff_eq.mpr c108
                  have c108b1 : (t296 != t281) = false := bne_eq_false_iff_eq.mpr c108
                  clear c108
                  obtain rfl := Option.some.inj H
                  go_wp2_with (first | ((with_reducible refine gate_callee (f := 19) rfl ?_); refine goesL_ (some 113) rfl rfl Try.func19 (by kernel_rfl) rfl #[.slice Ao88 t282.length co88, .int .i64 1] rfl (by (try simp only [List.map_toArray, List.map_cons, List.map_nil]); first | done | rfl | (simp only [List.length_drop, List.length_take]; rfl)) ?_; (with_reducible refine (laws_heldNoteS.calls kj86 _ _ t282 1 t296 _ ?side1 ?side2 A106.out).mono ?_); (case side1 => repeat (first | exact (Kd.R_reads' HO_10.out).2.2 | (with_reducible refine Kd.C_alloc ?_ _) | (with_reducible refine Kd.C_drewN ?_ _) | (with_reducible refine Kd.C_drew ?_))); (case side2 => exact (Kd.R_reads' HO_10.out).2.1); rintro e w' ⟨rfl, ⟨nd, rfl⟩⟩; refine ⟨_, rfl, ?_⟩))
                  go_ret
                  exact ⟨by first | rfl | (simp [errW_none, errW_some] <;> rfl) | (simp [*, errW_none, errW_some] <;> rfl), by repeat (first | (with_reducible first | exact HB.out | apply ba_ | apply bn_ | apply b1_ | refine bs_ ?_ GE240.out | refine bs_ ?_ GE258.out) | exact HB.out)⟩
                 ·rw [if_neg c108] at H
                  have c108b0 : (t296 == t281) = false := beq_eq_false_iff_ne.mpr c108
                  have c108b1 : (t296 != t281) = true := bne_iff_ne.mpr c108
                  obtain rfl := Option.some.inj H
                  go_wp2_with (first | ((with_reducible refine gate_callee (f := 19) rfl ?_); refine goesL_ (some 113) rfl rfl Try.func19 (by kernel_rfl) rfl #[.slice Ao88 t282.length co88, .int .i64 1] rfl (by (try simp only [List.map_toArray, List.map_cons, List.map_nil]); first | done | rfl | (simp only [List.length_drop, List.length_take]; rfl)) ?_; (with_reducible refine (laws_heldNoteS.calls kj86 _ _ t282 1 t296 _ ?side1 ?side2 A106.out).mono ?_); (case side1 => repeat (first | exact (Kd.R_reads' HO_10.out).2.2 | (with_reducible refine Kd.C_alloc ?_ _) | (with_reducible refine Kd.C_drewN ?_ _) | (with_reducible refine Kd.C_drew ?_))); (case side2 => exact (Kd.R_reads' HO_10.out).2.1); rintro e w' ⟨rfl, ⟨nd, rfl⟩⟩; refine ⟨_, rfl, ?_⟩))
                  go_ret
                  exact ⟨by first | rfl | (simp [errW_none, errW_some] <;> rfl) | (simp [*, errW_none, errW_some] <;> rfl), by repeat (first | (with_reducible first | exact HB.out | apply ba_ | apply bn_ | apply b1_ | refine bs_ ?_ GE240.out | refine bs_ ?_ GE258.out) | exact HB.out)⟩
            ·rw [if_neg c83] at H
             have c83b0 : (t283 == t281) = false := beq_eq_false_iff_ne.mpr c83
             have c83b1 : (t283 != t281) = true := bne_iff_ne.mpr c83
             obtain rfl := Option.some.inj H
             obtain ⟨Ao109, co109, eo109⟩ := Kd.R_slice HO_10.out
             subst eo109
             go_wp2_with (first | ((with_reducible refine gate_callee (f := 18) rfl ?_); refine goesL_ (some 85) rfl rfl Try.func18 (by kernel_rfl) rfl #[.slice Ao109 t262.length co109, .int .i64 1] rfl (by (try simp only [List.map_toArray, List.map_cons, List.map_nil]); first | done | rfl | (simp only [List.length_drop, List.length_take]; rfl)) ?_; (with_reducible refine (laws_markNoteS.calls kj55 (fun k_ => some k_ = (.slice Ao109 t262.length co109 : Value).ownBlock) (.slice Ao109 t262.length co109) t262 1 t281 t282 w _ ?side1 ?side2 A78.out).mono ?_); (case side1 => repeat (first | (with_reducible first | exact HB.out | apply ba_ | apply bn_ | apply b1_ | refine bs_ ?_ GE240.out | refine bs_ ?_ GE258.out) | exact HB.out)); (case side2 => exact Kd.R_tight rfl HO_10.out); rintro e w110 ⟨rfl, hy0, hb, hkp⟩; refine ⟨_, rfl, ?_⟩; have n0_ := M_ (rm_ (ok' := fun k_ => some k_ ≠ (.slice Ao109 t262.length co109 : Value).ownBlock) (Kd.R_keptB (HO_6.out) hkp (fun k_ hk_ hs_ => (hk_) hs_)) (fun k_ hk_ => hk_.1)); have n1_ := M_ (Kd.R_reok rfl hy0 (fun k_ e_ => HO_10.out.1 k_ e_)); have n2_ := M_ (rm_ (ok' := fun k_ => True) (Kd.R_keptB ((Kd.R_apart' HO_259000.out (Kd.R_typed HO_10.out) (by decide))) hkp (fun k_ hk_ hs_ => (hk_.2) hs_)) (fun k_ hk_ => trivial)); have n3_ := M_ (blk_kept (by (with_reducible repeat (first | refine kn_ ?_ _ | refine kd_ ?_ | refine ka_ ?_ _)); exact BK240.out) hkp (fun hs_ => (fun e_ => (Kd.R_ne HO_10.out BK240.out (by decide)) e_) hs_)); have n4_ := M_ (blk_kept (by (with_reducible repeat (first | refine kn_ ?_ _ | refine kd_ ?_ | refine ka_ ?_ _)); exact BK258.out) hkp (fun hs_ => (fun e_ => (Kd.R_ne HO_10.out BK258.out (by decide)) e_) hs_)); have n5_ := M_ (hb); clear HO_6; clear HO_10; clear HO_259000; clear BK240; clear BK258; clear HB; have HO_6 := n0_; have HO_10 := n1_; have HO_259000 := n2_; have BK240 := n3_; have BK258 := n4_; have HB := n5_; clear n0_ n1_ n2_ n3_ n4_ n5_; (try clear hb); (try clear hkp); (try clear hy0)) | ((with_reducible refine gate_callee (f := 19) rfl ?_); refine goesL_ (some 88) rfl rfl Try.func19 (by kernel_rfl) rfl #[.slice Ao109 t282.length co109, .int .i64 1] rfl (by (try simp only [List.map_toArray, List.map_cons, List.map_nil]); first | done | (rw [show t282.length = t262.length from (Kd.R_reads' HO_10.out).1.symm] <;> rfl) | rfl | (simp only [List.length_drop, List.length_take]; rfl)) ?_; (with_reducible refine (laws_heldNoteS.calls kj55 _ _ t282 1 t283 _ ?side1 ?side2 A79.out).mono ?_); (case side1 => repeat (first | exact (Kd.R_reads' HO_10.out).2.2 | (with_reducible refine Kd.C_alloc ?_ _) | (with_reducible refine Kd.C_drewN ?_ _) | (with_reducible refine Kd.C_drew ?_))); (case side2 => rw [show t282.length = t262.length from (Kd.R_reads' HO_10.out).1.symm]; exact (Kd.R_reads' HO_10.out).2.1); rintro e w' ⟨rfl, ⟨nd, rfl⟩⟩; refine ⟨_, rfl, ?_⟩))
             go_ret
             exact ⟨by first | rfl | (simp [errW_none, errW_some] <;> rfl) | (simp [*, errW_none, errW_some] <;> rfl), by repeat (first | (with_reducible first | exact HB.out | apply ba_ | apply bn_ | apply b1_ | refine bs_ ?_ GE240.out | refine bs_ ?_ GE258.out) | exact HB.out)⟩
       ·replace c53 := Bool.eq_false_iff.mpr c53
        subst c53
        have H1 : (some false) = some r := by rw [if_neg (show ¬ (false = true) by decide)] at H; exact H
        clear H
        have H := H1
        clear H1
        obtain rfl := Option.some.inj H
        try go_wp2
        have n0_ := M_ (rd_ HO_6.out)
        have n1_ := M_ (rd_ HO_9.out)
        have n2_ := M_ (rd_ HO_10.out)
        have n3_ := M_ (rd_ HO_259000.out)
        have n4_ := M_ (kd_ BK240.out)
        have n5_ := M_ (kd_ BK258.out)
        have n6_ := M_ (b1_ HB.out)
        clear HO_6
        clear HO_9
        clear HO_10
        clear HO_259000
        clear BK240
        clear BK258
        clear HB
        have HO_6 := n0_
        have HO_9 := n1_
        have HO_10 := n2_
        have HO_259000 := n3_
        have BK240 := n4_
        have BK258 := n5_
        have HB := n6_
        clear n0_ n1_ n2_ n3_ n4_ n5_ n6_
        refine start_ (n := 5) (S := fun w' => w'.cell? ⟨gb258, 0, none⟩ = some (.slice Ao32 t254.length co32) ∧ w'.cell? ⟨gb258, 1, none⟩ = some (.int .i64 t257) ∧ w'.cell? ⟨gb240, 0, none⟩ = some (.slice A0_0 l0_0.length c0_0) ∧ w'.cell? ⟨gb240, 1, none⟩ = some (.int .i64 a0_1)) (ds := []) #[false, false, false, false, false] (by kernel_rfl) rfl rfl ⟨(blk_cell BK258.out 0).trans rfl, (blk_cell BK258.out 1).trans rfl, (blk_cell BK240.out 0).trans rfl, (blk_cell BK240.out 1).trans rfl⟩ (fun hHeld => ?_)
        generalize wc.drew = w111 at HO_6 HO_9 HO_10 HO_259000 BK240 BK258 HB hHeld ⊢
        refine take_ (i := 0) (N := some 54) (v := ?_) (a' := ?_) #[true, false, false, false, false] rfl rfl (by kernel_rfl) (fun _ _ _ h => h) (Or.inl ⟨by rfl, ?_⟩) hHeld ?_ ?_
        rotate_left
        ·rintro w' ⟨s0, s1, s2, s3⟩
         go_simp
         with_reducible rfl
        rotate_left
        ·simp only [Act.put, la_, lb_, lc_, i64_w, i32_w]
         rfl
        refine take_ (i := 1) (N := some 55) (v := ?_) (a' := ?_) #[true, true, false, false, false] rfl rfl (by kernel_rfl) (fun _ _ _ h => h) (Or.inl ⟨by rfl, ?_⟩) hHeld ?_ ?_
        rotate_left
        ·rintro w' ⟨s0, s1, s2, s3⟩
         go_simp
         with_reducible rfl
        rotate_left
        ·simp only [Act.put, la_, lb_, lc_, i64_w, i32_w]
         rfl
        refine one_ (i := 2) (N := some 56) #[true, true, true, false, false] rfl rfl (by kernel_rfl) (by decide) (fun K hK => ?_)
        refine goes_ Try.func37 (by kernel_rfl) rfl #[.agg #[.slice A0_0 l0_0.length c0_0, .int .i64 a0_1]] (by rfl) rfl rfl (by (try simp only [List.map_toArray, List.map_cons, List.map_nil]); first | done | rfl | (simp only [List.length_drop, List.length_take]; rfl)) ?_
        with_reducible refine (laws_toInstrument.calls kj18 _ _ l0_0 a0_1 t267 t270 _ ?side1 ?side2 A48.out).mono ?_
        (case side1 => repeat (first | exact (Kd.C_below HR0_0.out HB.out) | (with_reducible refine Kd.C_alloc ?_ _) | (with_reducible refine Kd.C_drewN ?_ _) | (with_reducible refine Kd.C_drew ?_)))
        (case side2 => exact HC0_0.out)
        rintro e w112 ⟨v268, rfl, ho0, hb⟩
        refine ⟨_, rfl, ?_⟩
        have n0_ := M_ (rb_ (by (with_reducible repeat (first | apply ra_ | apply rn_ | apply rd_)); exact HO_6.out) hb)
        have n1_ := M_ (rb_ (by (with_reducible repeat (first | apply ra_ | apply rn_ | apply rd_)); exact HO_9.out) hb)
        have n2_ := M_ (rb_ (by (with_reducible repeat (first | apply ra_ | apply rn_ | apply rd_)); exact HO_10.out) hb)
        have n3_ := M_ (Kd.R_elder' (by (with_reducible repeat (first | apply ra_ | apply rn_ | apply rd_)); exact HO_259000.out) (Kd.R_base ho0) hb)
        have n4_ := M_ (Kd.R_lower (Kd.R_new' ho0 (Kd.R_lt (by (with_reducible repeat (first | apply ra_ | apply rn_ | apply rd_)); exact HO_259000.out))) (below_size (by repeat (first | (with_reducible first | exact HB.out | apply ba_ | apply bn_ | apply b1_ | refine bs_ ?_ GE240.out | refine bs_ ?_ GE258.out) | exact HB.out))))
        have n5_ := M_ (blk_below (g := gb240) (o := .cells #[.slice A0_0 l0_0.length c0_0, .int .i64 a0_1] 55 (0, 0)) (by (with_reducible repeat (first | refine kn_ ?_ _ | refine kd_ ?_ | refine ka_ ?_ _)); exact BK240.out) hb)
        have n6_ := M_ (blk_below (g := gb258) (o := .cells #[.slice Ao32 t254.length co32, .int .i64 t257] 59 (0, 0)) (by (with_reducible repeat (first | refine kn_ ?_ _ | refine kd_ ?_ | refine ka_ ?_ _)); exact BK258.out) hb)
        have n7_ := M_ (below_step (by repeat (first | (with_reducible first | exact HB.out | apply ba_ | apply bn_ | apply b1_ | refine bs_ ?_ GE240.out | refine bs_ ?_ GE258.out) | exact HB.out)) hb)
        clear HO_6
        clear HO_9
        clear HO_10
        clear HO_259000
        clear BK240
        clear BK258
        clear HB
        have HO_6 := n0_
        have HO_9 := n1_
        have HO_10 := n2_
        have HO_259000 := n3_
        have HO269 := n4_
        have BK240 := n5_
        have BK258 := n6_
        have HB := n7_
        clear n0_ n1_ n2_ n3_ n4_ n5_ n6_ n7_
        (try clear hb)
        (try clear hb2)
        (try clear hk)
        (try clear hi)
        (try clear ho0)
        obtain ⟨Ao113, co113, eo113⟩ := Kd.R_slice HO269.out
        (first | subst eo113 | (injection eo113 with f1_ f2_ f3_; have f4_ := f1_.symm; have f5_ := f3_.symm; clear f1_ f2_ f3_; subst f4_; subst f5_))
        refine hK.out _ _ ⟨(blk_cell BK258.out 0).trans rfl, (blk_cell BK258.out 1).trans rfl, (blk_cell BK240.out 0).trans rfl, (blk_cell BK240.out 1).trans rfl⟩ (fun hHeld => ?_)
        clear hK K
        refine norm_ (a' := ?_) ?_ ?_
        rotate_left
        ·show Act.put _ (some 56) _ = _
         simp only [Act.put, la_, lb_, lc_, i64_w, i32_w]
         rfl
        refine one_ (i := 3) (N := some 57) #[true, true, true, true, false] rfl rfl (by kernel_rfl) (by decide) (fun K hK => ?_)
        refine goes_ Try.func39 (by kernel_rfl) rfl #[.agg #[.slice Ao32 t254.length co32, .int .i64 t257], .agg #[.slice Ao113 t267.length co113, .int .i64 t270]] (by rfl) rfl rfl (by (try simp only [List.map_toArray, List.map_cons, List.map_nil]); first | done | rfl | (simp only [List.length_drop, List.length_take]; rfl)) ?_
        with_reducible refine (laws_eqInstrument.calls kj18 _ _ t254 t257 _ _ t267 t270 true _ ?side1 ?side2 ?side3 ?side4 A49.out).mono ?_
        (case side1 => repeat (first | exact (Kd.R_reads' HO_259000.out).2.2 | (with_reducible refine Kd.C_alloc ?_ _) | (with_reducible refine Kd.C_drewN ?_ _) | (with_reducible refine Kd.C_drew ?_)))
        (case side2 => exact (Kd.R_reads' HO_259000.out).2.1)
        (case side3 => repeat (first | exact (Kd.R_reads' HO269.out).2.2 | (with_reducible refine Kd.C_alloc ?_ _) | (with_reducible refine Kd.C_drewN ?_ _) | (with_reducible refine Kd.C_drew ?_)))
        (case side4 => exact (Kd.R_reads' HO269.out).2.1)
        rintro e w114 ⟨rfl, hb⟩
        refine ⟨_, rfl, ?_⟩
        have n0_ := M_ (rb_ (by (with_reducible repeat (first | apply ra_ | apply rn_ | apply rd_)); exact HO_6.out) hb)
        have n1_ := M_ (rb_ (by (with_reducible repeat (first | apply ra_ | apply rn_ | apply rd_)); exact HO_9.out) hb)
        have n2_ := M_ (rb_ (by (with_reducible repeat (first | apply ra_ | apply rn_ | apply rd_)); exact HO_10.out) hb)
        have n3_ := M_ (rb_ (by (with_reducible repeat (first | apply ra_ | apply rn_ | apply rd_)); exact HO_259000.out) hb)
        have n4_ := M_ (rb_ (by (with_reducible repeat (first | apply ra_ | apply rn_ | apply rd_)); exact HO269.out) hb)
        have n5_ := M_ (blk_below (g := gb240) (o := .cells #[.slice A0_0 l0_0.length c0_0, .int .i64 a0_1] 55 (0, 0)) (by (with_reducible repeat (first | refine kn_ ?_ _ | refine kd_ ?_ | refine ka_ ?_ _)); exact BK240.out) hb)
        have n6_ := M_ (blk_below (g := gb258) (o := .cells #[.slice Ao32 t254.length co32, .int .i64 t257] 59 (0, 0)) (by (with_reducible repeat (first | refine kn_ ?_ _ | refine kd_ ?_ | refine ka_ ?_ _)); exact BK258.out) hb)
        have n7_ := M_ (below_step (by repeat (first | (with_reducible first | exact HB.out | apply ba_ | apply bn_ | apply b1_ | refine bs_ ?_ GE240.out | refine bs_ ?_ GE258.out) | exact HB.out)) hb)
        clear HO_6
        clear HO_9
        clear HO_10
        clear HO_259000
        clear HO269
        clear BK240
        clear BK258
        clear HB
        have HO_6 := n0_
        have HO_9 := n1_
        have HO_10 := n2_
        have HO_259000 := n3_
        have HO269 := n4_
        have BK240 := n5_
        have BK258 := n6_
        have HB := n7_
        clear n0_ n1_ n2_ n3_ n4_ n5_ n6_ n7_
        (try clear hb)
        (try clear hb2)
        (try clear hk)
        (try clear hi)
        refine hK.out _ _ ⟨(blk_cell BK258.out 0).trans rfl, (blk_cell BK258.out 1).trans rfl, (blk_cell BK240.out 0).trans rfl, (blk_cell BK240.out 1).trans rfl⟩ (fun hHeld => ?_)
        clear hK K
        refine norm_ (a' := ?_) ?_ ?_
        rotate_left
        ·show Act.put _ (some 57) _ = _
         simp only [Act.put, la_, lb_, lc_, i64_w, i32_w]
         rfl
        refine pure_ (i := 4) (N := some 58) (v := ?_) (a' := ?_) #[true, true, true, true, true] rfl rfl (by kernel_rfl) (fun _ _ _ h => h) (Or.inl ⟨by rfl, ?_⟩) ?_ ?_
        rotate_left
        ·intro w'
         go_simp
         with_reducible rfl
        rotate_left
        ·simp only [Act.put, la_, lb_, lc_, i64_w, i32_w]
         rfl
        refine done_ (by kernel_rfl) ?_
        try go_wp2_with (first | ((with_reducible refine gate_callee (f := 15) rfl ?_); refine goesL_ (some 61) rfl rfl Try.func15 (by kernel_rfl) rfl #[.slice A1 l1.length c1] rfl (by (try simp only [List.map_toArray, List.map_cons, List.map_nil]); first | done | rfl | (simp only [List.length_drop, List.length_take]; rfl)) ?_; (with_reducible refine (laws_toNoteS.calls kj18 _ _ l1 t272 _ ?side1 ?side2 A51.out).mono ?_); (case side1 => repeat (first | exact (Kd.C_below HR1.out HB.out) | (with_reducible refine Kd.C_alloc ?_ _) | (with_reducible refine Kd.C_drewN ?_ _) | (with_reducible refine Kd.C_drew ?_))); (case side2 => exact HC1.out); rintro e w115 ⟨v273, rfl, ho0, hb⟩; refine ⟨_, rfl, ?_⟩; have n0_ := M_ (Kd.R_elder' (by (with_reducible repeat (first | apply ra_ | apply rn_ | apply rd_)); exact HO_6.out) (Kd.R_base ho0) hb); have n1_ := M_ (Kd.R_elder' (by (with_reducible repeat (first | apply ra_ | apply rn_ | apply rd_)); exact HO_9.out) (Kd.R_base ho0) hb); have n2_ := M_ (Kd.R_elder' (by (with_reducible repeat (first | apply ra_ | apply rn_ | apply rd_)); exact HO_10.out) (Kd.R_base ho0) hb); have n3_ := M_ (rb_ (by (with_reducible repeat (first | apply ra_ | apply rn_ | apply rd_)); exact HO_259000.out) hb); have n4_ := M_ (rb_ (by (with_reducible repeat (first | apply ra_ | apply rn_ | apply rd_)); exact HO269.out) hb); have n5_ := M_ (Kd.R_lower (Kd.R_new' (Kd.R_new' (Kd.R_new' ho0 (Kd.R_lt (by (with_reducible repeat (first | apply ra_ | apply rn_ | apply rd_)); exact HO_6.out))) (Kd.R_lt (by (with_reducible repeat (first | apply ra_ | apply rn_ | apply rd_)); exact HO_9.out))) (Kd.R_lt (by (with_reducible repeat (first | apply ra_ | apply rn_ | apply rd_)); exact HO_10.out))) (below_size (by repeat (first | (with_reducible first | exact HB.out | apply ba_ | apply bn_ | apply b1_ | refine bs_ ?_ GE240.out | refine bs_ ?_ GE258.out) | exact HB.out)))); have n6_ := M_ (blk_below (g := gb240) (o := .cells #[.slice A0_0 l0_0.length c0_0, .int .i64 a0_1] 55 (0, 0)) (by (with_reducible repeat (first | refine kn_ ?_ _ | refine kd_ ?_ | refine ka_ ?_ _)); exact BK240.out) hb); have n7_ := M_ (blk_below (g := gb258) (o := .cells #[.slice Ao32 t254.length co32, .int .i64 t257] 59 (0, 0)) (by (with_reducible repeat (first | refine kn_ ?_ _ | refine kd_ ?_ | refine ka_ ?_ _)); exact BK258.out) hb); have n8_ := M_ (below_step (by repeat (first | (with_reducible first | exact HB.out | apply ba_ | apply bn_ | apply b1_ | refine bs_ ?_ GE240.out | refine bs_ ?_ GE258.out) | exact HB.out)) hb); clear HO_6; clear HO_9; clear HO_10; clear HO_259000; clear HO269; clear BK240; clear BK258; clear HB; have HO_6 := n0_; have HO_9 := n1_; have HO_10 := n2_; have HO_259000 := n3_; have HO269 := n4_; have HO274 := n5_; have BK240 := n6_; have BK258 := n7_; have HB := n8_; clear n0_ n1_ n2_ n3_ n4_ n5_ n6_ n7_ n8_; (try clear hb); (try clear hb2); (try clear hk); (try clear hi); (try clear ho0); obtain ⟨Ao116, co116, eo116⟩ := Kd.R_slice HO274.out; subst eo116) | ((with_reducible refine gate_callee (f := 17) rfl ?_); refine goesL_ (some 62) rfl rfl Try.func17 (by kernel_rfl) rfl #[.slice Ao37 t259.length co37, .slice Ao116 t272.length co116] rfl (by (try simp only [List.map_toArray, List.map_cons, List.map_nil]); first | done | rfl | (simp only [List.length_drop, List.length_take]; rfl)) ?_; (with_reducible refine (laws_eqNoteS.calls kj18 _ _ t259 _ _ t272 false _ ?side1 ?side2 ?side3 ?side4 A52.out).mono ?_); (case side1 => repeat (first | exact (Kd.R_reads' HO_9.out).2.2 | (with_reducible refine Kd.C_alloc ?_ _) | (with_reducible refine Kd.C_drewN ?_ _) | (with_reducible refine Kd.C_drew ?_))); (case side2 => exact (Kd.R_reads' HO_9.out).2.1); (case side3 => repeat (first | exact (Kd.R_reads' HO274.out).2.2 | (with_reducible refine Kd.C_alloc ?_ _) | (with_reducible refine Kd.C_drewN ?_ _) | (with_reducible refine Kd.C_drew ?_))); (case side4 => exact (Kd.R_reads' HO274.out).2.1); rintro e w117 ⟨rfl, hb⟩; refine ⟨_, rfl, ?_⟩; have n0_ := M_ (rb_ (by (with_reducible repeat (first | apply ra_ | apply rn_ | apply rd_)); exact HO_6.out) hb); have n1_ := M_ (rb_ (by (with_reducible repeat (first | apply ra_ | apply rn_ | apply rd_)); exact HO_9.out) hb); have n2_ := M_ (rb_ (by (with_reducible repeat (first | apply ra_ | apply rn_ | apply rd_)); exact HO_10.out) hb); have n3_ := M_ (rb_ (by (with_reducible repeat (first | apply ra_ | apply rn_ | apply rd_)); exact HO_259000.out) hb); have n4_ := M_ (rb_ (by (with_reducible repeat (first | apply ra_ | apply rn_ | apply rd_)); exact HO269.out) hb); have n5_ := M_ (rb_ (by (with_reducible repeat (first | apply ra_ | apply rn_ | apply rd_)); exact HO274.out) hb); have n6_ := M_ (blk_below (g := gb240) (o := .cells #[.slice A0_0 l0_0.length c0_0, .int .i64 a0_1] 55 (0, 0)) (by (with_reducible repeat (first | refine kn_ ?_ _ | refine kd_ ?_ | refine ka_ ?_ _)); exact BK240.out) hb); have n7_ := M_ (blk_below (g := gb258) (o := .cells #[.slice Ao32 t254.length co32, .int .i64 t257] 59 (0, 0)) (by (with_reducible repeat (first | refine kn_ ?_ _ | refine kd_ ?_ | refine ka_ ?_ _)); exact BK258.out) hb); have n8_ := M_ (below_step (by repeat (first | (with_reducible first | exact HB.out | apply ba_ | apply bn_ | apply b1_ | refine bs_ ?_ GE240.out | refine bs_ ?_ GE258.out) | exact HB.out)) hb); clear HO_6; clear HO_9; clear HO_10; clear HO_259000; clear HO269; clear HO274; clear BK240; clear BK258; clear HB; have HO_6 := n0_; have HO_9 := n1_; have HO_10 := n2_; have HO_259000 := n3_; have HO269 := n4_; have HO274 := n5_; have BK240 := n6_; have BK258 := n7_; have HB := n8_; clear n0_ n1_ n2_ n3_ n4_ n5_ n6_ n7_ n8_; (try clear hb); (try clear hb2); (try clear hk); (try clear hi)))
        go_ret
        exact ⟨by first | rfl | (simp [errW_none, errW_some] <;> rfl) | (simp [*, errW_none, errW_some] <;> rfl), by repeat (first | (with_reducible first | exact HB.out | apply ba_ | apply bn_ | apply b1_ | refine bs_ ?_ GE240.out | refine bs_ ?_ GE258.out) | exact HB.out)⟩
      ·replace c50 := Bool.eq_false_iff.mpr c50
       subst c50
       have H1 : (some false) = some r := by rw [if_neg (show ¬ (false = true) by decide)] at H; exact H
       clear H
       have H := H1
       clear H1
       obtain rfl := Option.some.inj H
       try go_wp2
       have n0_ := M_ (rd_ HO_6.out)
       have n1_ := M_ (rd_ HO_9.out)
       have n2_ := M_ (rd_ HO_10.out)
       have n3_ := M_ (rd_ HO_259000.out)
       have n4_ := M_ (kd_ BK240.out)
       have n5_ := M_ (kd_ BK258.out)
       have n6_ := M_ (b1_ HB.out)
       clear HO_6
       clear HO_9
       clear HO_10
       clear HO_259000
       clear BK240
       clear BK258
       clear HB
       have HO_6 := n0_
       have HO_9 := n1_
       have HO_10 := n2_
       have HO_259000 := n3_
       have BK240 := n4_
       have BK258 := n5_
       have HB := n6_
       clear n0_ n1_ n2_ n3_ n4_ n5_ n6_
       refine start_ (n := 5) (S := fun w' => w'.cell? ⟨gb258, 0, none⟩ = some (.slice Ao32 t254.length co32) ∧ w'.cell? ⟨gb258, 1, none⟩ = some (.int .i64 t257) ∧ w'.cell? ⟨gb240, 0, none⟩ = some (.slice A0_0 l0_0.length c0_0) ∧ w'.cell? ⟨gb240, 1, none⟩ = some (.int .i64 a0_1)) (ds := []) #[false, false, false, false, false] (by kernel_rfl) rfl rfl ⟨(blk_cell BK258.out 0).trans rfl, (blk_cell BK258.out 1).trans rfl, (blk_cell BK240.out 0).trans rfl, (blk_cell BK240.out 1).trans rfl⟩ (fun hHeld => ?_)
       generalize wc.drew = w118 at HO_6 HO_9 HO_10 HO_259000 BK240 BK258 HB hHeld ⊢
       refine take_ (i := 0) (N := some 54) (v := ?_) (a' := ?_) #[true, false, false, false, false] rfl rfl (by kernel_rfl) (fun _ _ _ h => h) (Or.inl ⟨by rfl, ?_⟩) hHeld ?_ ?_
       rotate_left
       ·rintro w' ⟨s0, s1, s2, s3⟩
        go_simp
        with_reducible rfl
       rotate_left
       ·simp only [Act.put, la_, lb_, lc_, i64_w, i32_w]
        rfl
       refine take_ (i := 1) (N := some 55) (v := ?_) (a' := ?_) #[true, true, false, false, false] rfl rfl (by kernel_rfl) (fun _ _ _ h => h) (Or.inl ⟨by rfl, ?_⟩) hHeld ?_ ?_
       rotate_left
       ·rintro w' ⟨s0, s1, s2, s3⟩
        go_simp
        with_reducible rfl
       rotate_left
       ·simp only [Act.put, la_, lb_, lc_, i64_w, i32_w]
        rfl
       refine one_ (i := 2) (N := some 56) #[true, true, true, false, false] rfl rfl (by kernel_rfl) (by decide) (fun K hK => ?_)
       refine goes_ Try.func37 (by kernel_rfl) rfl #[.agg #[.slice A0_0 l0_0.length c0_0, .int .i64 a0_1]] (by rfl) rfl rfl (by (try simp only [List.map_toArray, List.map_cons, List.map_nil]); first | done | rfl | (simp only [List.length_drop, List.length_take]; rfl)) ?_
       with_reducible refine (laws_toInstrument.calls kj18 _ _ l0_0 a0_1 t267 t270 _ ?side1 ?side2 A48.out).mono ?_
       (case side1 => repeat (first | exact (Kd.C_below HR0_0.out HB.out) | (with_reducible refine Kd.C_alloc ?_ _) | (with_reducible refine Kd.C_drewN ?_ _) | (with_reducible refine Kd.C_drew ?_)))
       (case side2 => exact HC0_0.out)
       rintro e w119 ⟨v268, rfl, ho0, hb⟩
       refine ⟨_, rfl, ?_⟩
       have n0_ := M_ (rb_ (by (with_reducible repeat (first | apply ra_ | apply rn_ | apply rd_)); exact HO_6.out) hb)
       have n1_ := M_ (rb_ (by (with_reducible repeat (first | apply ra_ | apply rn_ | apply rd_)); exact HO_9.out) hb)
       have n2_ := M_ (rb_ (by (with_reducible repeat (first | apply ra_ | apply rn_ | apply rd_)); exact HO_10.out) hb)
       have n3_ := M_ (Kd.R_elder' (by (with_reducible repeat (first | apply ra_ | apply rn_ | apply rd_)); exact HO_259000.out) (Kd.R_base ho0) hb)
       have n4_ := M_ (Kd.R_lower (Kd.R_new' ho0 (Kd.R_lt (by (with_reducible repeat (first | apply ra_ | apply rn_ | apply rd_)); exact HO_259000.out))) (below_size (by repeat (first | (with_reducible first | exact HB.out | apply ba_ | apply bn_ | apply b1_ | refine bs_ ?_ GE240.out | refine bs_ ?_ GE258.out) | exact HB.out))))
       have n5_ := M_ (blk_below (g := gb240) (o := .cells #[.slice A0_0 l0_0.length c0_0, .int .i64 a0_1] 55 (0, 0)) (by (with_reducible repeat (first | refine kn_ ?_ _ | refine kd_ ?_ | refine ka_ ?_ _)); exact BK240.out) hb)
       have n6_ := M_ (blk_below (g := gb258) (o := .cells #[.slice Ao32 t254.length co32, .int .i64 t257] 59 (0, 0)) (by (with_reducible repeat (first | refine kn_ ?_ _ | refine kd_ ?_ | refine ka_ ?_ _)); exact BK258.out) hb)
       have n7_ := M_ (below_step (by repeat (first | (with_reducible first | exact HB.out | apply ba_ | apply bn_ | apply b1_ | refine bs_ ?_ GE240.out | refine bs_ ?_ GE258.out) | exact HB.out)) hb)
       clear HO_6
       clear HO_9
       clear HO_10
       clear HO_259000
       clear BK240
       clear BK258
       clear HB
       have HO_6 := n0_
       have HO_9 := n1_
       have HO_10 := n2_
       have HO_259000 := n3_
       have HO269 := n4_
       have BK240 := n5_
       have BK258 := n6_
       have HB := n7_
       clear n0_ n1_ n2_ n3_ n4_ n5_ n6_ n7_
       (try clear hb)
       (try clear hb2)
       (try clear hk)
       (try clear hi)
       (try clear ho0)
       obtain ⟨Ao120, co120, eo120⟩ := Kd.R_slice HO269.out
       (first | subst eo120 | (injection eo120 with f1_ f2_ f3_; have f4_ := f1_.symm; have f5_ := f3_.symm; clear f1_ f2_ f3_; subst f4_; subst f5_))
       refine hK.out _ _ ⟨(blk_cell BK258.out 0).trans rfl, (blk_cell BK258.out 1).trans rfl, (blk_cell BK240.out 0).trans rfl, (blk_cell BK240.out 1).trans rfl⟩ (fun hHeld => ?_)
       clear hK K
       refine norm_ (a' := ?_) ?_ ?_
       rotate_left
       ·show Act.put _ (some 56) _ = _
        simp only [Act.put, la_, lb_, lc_, i64_w, i32_w]
        rfl
       refine one_ (i := 3) (N := some 57) #[true, true, true, true, false] rfl rfl (by kernel_rfl) (by decide) (fun K hK => ?_)
       refine goes_ Try.func39 (by kernel_rfl) rfl #[.agg #[.slice Ao32 t254.length co32, .int .i64 t257], .agg #[.slice Ao120 t267.length co120, .int .i64 t270]] (by rfl) rfl rfl (by (try simp only [List.map_toArray, List.map_cons, List.map_nil]); first | done | rfl | (simp only [List.length_drop, List.length_take]; rfl)) ?_
       with_reducible refine (laws_eqInstrument.calls kj18 _ _ t254 t257 _ _ t267 t270 false _ ?side1 ?side2 ?side3 ?side4 A49.out).mono ?_
       (case side1 => repeat (first | exact (Kd.R_reads' HO_259000.out).2.2 | (with_reducible refine Kd.C_alloc ?_ _) | (with_reducible refine Kd.C_drewN ?_ _) | (with_reducible refine Kd.C_drew ?_)))
       (case side2 => exact (Kd.R_reads' HO_259000.out).2.1)
       (case side3 => repeat (first | exact (Kd.R_reads' HO269.out).2.2 | (with_reducible refine Kd.C_alloc ?_ _) | (with_reducible refine Kd.C_drewN ?_ _) | (with_reducible refine Kd.C_drew ?_)))
       (case side4 => exact (Kd.R_reads' HO269.out).2.1)
       rintro e w121 ⟨rfl, hb⟩
       refine ⟨_, rfl, ?_⟩
       have n0_ := M_ (rb_ (by (with_reducible repeat (first | apply ra_ | apply rn_ | apply rd_)); exact HO_6.out) hb)
       have n1_ := M_ (rb_ (by (with_reducible repeat (first | apply ra_ | apply rn_ | apply rd_)); exact HO_9.out) hb)
       have n2_ := M_ (rb_ (by (with_reducible repeat (first | apply ra_ | apply rn_ | apply rd_)); exact HO_10.out) hb)
       have n3_ := M_ (rb_ (by (with_reducible repeat (first | apply ra_ | apply rn_ | apply rd_)); exact HO_259000.out) hb)
       have n4_ := M_ (rb_ (by (with_reducible repeat (first | apply ra_ | apply rn_ | apply rd_)); exact HO269.out) hb)
       have n5_ := M_ (blk_below (g := gb240) (o := .cells #[.slice A0_0 l0_0.length c0_0, .int .i64 a0_1] 55 (0, 0)) (by (with_reducible repeat (first | refine kn_ ?_ _ | refine kd_ ?_ | refine ka_ ?_ _)); exact BK240.out) hb)
       have n6_ := M_ (blk_below (g := gb258) (o := .cells #[.slice Ao32 t254.length co32, .int .i64 t257] 59 (0, 0)) (by (with_reducible repeat (first | refine kn_ ?_ _ | refine kd_ ?_ | refine ka_ ?_ _)); exact BK258.out) hb)
       have n7_ := M_ (below_step (by repeat (first | (with_reducible first | exact HB.out | apply ba_ | apply bn_ | apply b1_ | refine bs_ ?_ GE240.out | refine bs_ ?_ GE258.out) | exact HB.out)) hb)
       clear HO_6
       clear HO_9
       clear HO_10
       clear HO_259000
       clear HO269
       clear BK240
       clear BK258
       clear HB
       have HO_6 := n0_
       have HO_9 := n1_
       have HO_10 := n2_
       have HO_259000 := n3_
       have HO269 := n4_
       have BK240 := n5_
       have BK258 := n6_
       have HB := n7_
       clear n0_ n1_ n2_ n3_ n4_ n5_ n6_ n7_
       (try clear hb)
       (try clear hb2)
       (try clear hk)
       (try clear hi)
       refine hK.out _ _ ⟨(blk_cell BK258.out 0).trans rfl, (blk_cell BK258.out 1).trans rfl, (blk_cell BK240.out 0).trans rfl, (blk_cell BK240.out 1).trans rfl⟩ (fun hHeld => ?_)
       clear hK K
       refine norm_ (a' := ?_) ?_ ?_
       rotate_left
       ·show Act.put _ (some 57) _ = _
        simp only [Act.put, la_, lb_, lc_, i64_w, i32_w]
        rfl
       refine pure_ (i := 4) (N := some 58) (v := ?_) (a' := ?_) #[true, true, true, true, true] rfl rfl (by kernel_rfl) (fun _ _ _ h => h) (Or.inl ⟨by rfl, ?_⟩) ?_ ?_
       rotate_left
       ·intro w'
        go_simp
        with_reducible rfl
       rotate_left
       ·simp only [Act.put, la_, lb_, lc_, i64_w, i32_w]
        rfl
       refine done_ (by kernel_rfl) ?_
       try go_wp2
       go_ret
       exact ⟨by first | rfl | (simp [errW_none, errW_some] <;> rfl) | (simp [*, errW_none, errW_some] <;> rfl), by repeat (first | (with_reducible first | exact HB.out | apply ba_ | apply bn_ | apply b1_ | refine bs_ ?_ GE240.out | refine bs_ ?_ GE258.out) | exact HB.out)⟩

end Go.Proofs.Ytjgpngeifgcidaa.PFnExactPlayablePart
