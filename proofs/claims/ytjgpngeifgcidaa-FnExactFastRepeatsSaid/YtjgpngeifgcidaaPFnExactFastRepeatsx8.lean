-- by wip/xprint.py, over the kit's printer
import Derived.Test.YtjgpngeifgcidaaPFnExactFastRepeatsx0
import Derived.Test.YtjgpngeifgcidaaPFnExactFastRepeatsx1
import Derived.Test.YtjgpngeifgcidaaPFnExactFastRepeatsx2
import Derived.Test.YtjgpngeifgcidaaPFnExactFastRepeatsx4
import Derived.Test.YtjgpngeifgcidaaPFnExactFastRepeatsx6
import Derived.Test.YtjgpngeifgcidaaPFnExactFastRepeatsx7
namespace Go.Proofs.Ytjgpngeifgcidaa.PFnExactFastRepeats
open Go.RowKit Go.Proofs.YtjgpngeifgcidaaW.PrintWords Go.Proofs.YtjgpngeifgcidaaW.PrintLast Go.Proofs.YtjgpngeifgcidaaW.PrintMore
attribute [local go_sem] max2_int min2_int max_two min_two max_three min_three max_four min_four
set_option linter.unusedVariables false
set_option linter.unusedSimpArgs false

theorem sep_three_ {d d2 : Kd (List Int)} {d3 : Kd Int} {e e2 : Nat} {W w1 : World} {base b3 : Nat} {ok6 ok10 ok3 : Nat → Prop} {u v u3 : Value} {xs ys : List (List Int)} {zs : List Int} (h10 : Kd.S d e w1 W.heap.size ok10 v ys) (hb : Below W.heap.size W w1) (h6 : Kd.S d2 e W base ok6 u xs) {g1 g2 : Nat} {o1 o2 : Obj} (h3 : Kd.R d3 e2 W b3 ok3 u3 zs) (k1 : W.heap[g1]? = some o1) (k2 : W.heap[g2]? = some o2) :
    ∃ BB : Nat, g1 < BB ∧ g2 < BB ∧ Kd.S d2 e w1 base (fun k => (ok6 k ∧ some k ≠ v.ownBlock) ∧ k < BB) u xs ∧ Kd.S d e w1 W.heap.size (fun k => ok10 k ∧ BB ≤ k) v ys ∧ Kd.R d3 e2 w1 b3 (fun k => ok3 k ∧ k < BB) u3 zs :=
  ⟨W.heap.size, blk_lt k1, blk_lt k2, Kd.S_mono (Kd.S_old h6 hb) (fun k hk => ⟨⟨hk.1, fun e => by have := Kd.S_base h10 k e.symm; have := hk.2; omega⟩, hk.2⟩), Kd.S_mono (Kd.S_bound h10) (fun k hk => ⟨hk.1, hk.2.1⟩), Kd.R_mono (Kd.R_below (Kd.R_bound h3) hb) (fun k hk => ⟨hk.1, hk.2.2.1⟩)⟩
mutual
def laws_FnExactFastRepeats.j0 : Nat → List (S94) → List (List Int) → Bool → List (S92) → List (List Int) → Bool → Bool → List Int → Int → List Int → Int → Option (Bool)
  | 0, _, _, _, _, _, _, _, _, _, _, _ => none
  | k + 1, x1, x6, x7, x9, x10, x11, x53, x236000, x236001, x254000, x254001 => if x53 = true then (some false) else ((laws_toInstrument.f k x236000 x236001).bind fun bt262 => ((laws_eqInstrument.f k x254000 x254001 bt262.1 bt262.2).bind fun t266 => (if t266 = true then ((laws_toNoteS.f k x1).bind fun t267 => ((laws_eqNoteS.f k x9 t267).bind fun t270 => (if t270 = true then ((laws_markInstrument.f k x254000 x254001 1).bind fun bt271 => ((laws_markNoteS.f k x9 bt271.1).bind fun bt273 => (if bt273.1 < 0 then (laws_FnExactFastRepeats.j1 k x1 x6 x7 x10 true x236000 x236001) else ((laws_eqIntSS.f k x10 x6).bind fun t275 => (if t275 = true then (laws_FnExactFastRepeats.j1 k x1 x6 x7 x10 (x11 != x7) x236000 x236001) else (laws_FnExactFastRepeats.j1 k x1 x6 x7 x10 true x236000 x236001)))))) else (some false)))) else (some false))))
def laws_FnExactFastRepeats.j1 : Nat → List (S94) → List (List Int) → Bool → List (List Int) → Bool → List Int → Int → Option (Bool)
  | 0, _, _, _, _, _, _, _ => none
  | k + 1, x1, x6, x7, x10, x82, x236000, x236001 => if x82 = true then (some false) else ((laws_markIntSS.f k x10 1).bind fun bt276 => ((laws_heldIntSS.f k bt276.2 1).bind fun t278 => (if t278 < 0 then (some false) else (if t278 = bt276.1 then ((laws_toInstrument.f k x236000 x236001).bind fun bt279 => ((laws_toNoteS.f k x1).bind fun t283 => ((impl_FastRepeats.f k bt279.1 bt279.2 t283).bind fun bt286 => ((laws_eqIntSS.f k bt286.1 x6).bind fun t290 => (if t290 = true then (laws_FnExactFastRepeats.j2 k bt276.2 bt276.1 (bt286.2 != x7)) else (laws_FnExactFastRepeats.j2 k bt276.2 bt276.1 true)))))) else (some false)))))
def laws_FnExactFastRepeats.j2 : Nat → List (List Int) → Int → Bool → Option (Bool)
  | 0, _, _, _ => none
  | k + 1, x10, x13, x110 => if x110 = true then (some false) else ((laws_heldIntSS.f k x10 1).bind fun t291 => (if t291 < 0 then (some false) else (if t291 = x13 then (some true) else (some false))))
end
def laws_FnExactFastRepeats.f (k : Nat) (l0_0 : List Int) (a0_1 : Int) (l1 : List (S94)) : Option (Bool) := (laws_szInstrument.f l0_0 a0_1 1048576).bind fun t236 => (if t236 < 0 then (some true) else ((laws_szNoteS.f l1 t236).bind fun t237 => (if t237 < 0 then (some true) else ((laws_toInstrument.f k l0_0 a0_1).bind fun bt238 => ((laws_toNoteS.f k l1).bind fun t242 => ((spec_FastRepeats.f k bt238.1 bt238.2 t242).bind fun bt245 => ((laws_toInstrument.f k l0_0 a0_1).bind fun bt249 => ((laws_toNoteS.f k l1).bind fun t254 => ((impl_FastRepeats.f k bt249.1 bt249.2 t254).bind fun bt257 => ((laws_eqIntSS.f k bt257.1 bt245.1).bind fun t261 => (if t261 = true then (laws_FnExactFastRepeats.j0 k l1 bt245.1 bt245.2 t254 bt257.1 bt257.2 (bt257.2 != bt245.2) l0_0 a0_1 bt249.1 bt249.2) else (laws_FnExactFastRepeats.j0 k l1 bt245.1 bt245.2 t254 bt257.1 bt257.2 true l0_0 a0_1 bt249.1 bt249.2))))))))))))
theorem laws_FnExactFastRepeats.mono_l : ∀ k, (∀ y0 y1 y2 y3 y4 y5 y6 y7 y8 y9 y10, LeO (laws_FnExactFastRepeats.j0 k y0 y1 y2 y3 y4 y5 y6 y7 y8 y9 y10) (laws_FnExactFastRepeats.j0 (k + 1) y0 y1 y2 y3 y4 y5 y6 y7 y8 y9 y10)) ∧ (∀ y0 y1 y2 y3 y4 y5 y6, LeO (laws_FnExactFastRepeats.j1 k y0 y1 y2 y3 y4 y5 y6) (laws_FnExactFastRepeats.j1 (k + 1) y0 y1 y2 y3 y4 y5 y6)) ∧ (∀ y0 y1 y2, LeO (laws_FnExactFastRepeats.j2 k y0 y1 y2) (laws_FnExactFastRepeats.j2 (k + 1) y0 y1 y2))
  | 0 => ⟨fun _ _ _ _ _ _ _ _ _ _ _ r h => by simp [laws_FnExactFastRepeats.j0] at h, fun _ _ _ _ _ _ _ r h => by simp [laws_FnExactFastRepeats.j1] at h, fun _ _ _ r h => by simp [laws_FnExactFastRepeats.j2] at h⟩
  | k + 1 => by
    obtain ⟨ih0, ih1, ih2⟩ := laws_FnExactFastRepeats.mono_l k
    refine ⟨?_, ?_, ?_⟩
    · intro y0 y1 y2 y3 y4 y5 y6 y7 y8 y9 y10
      unfold laws_FnExactFastRepeats.j0
      repeat' first
      | (with_reducible exact ih0 _ _ _ _ _ _ _ _ _ _ _)
      | (with_reducible exact ih1 _ _ _ _ _ _ _)
      | (with_reducible exact ih2 _ _ _)
      | (with_reducible exact impl_FastRepeats.mono _ _ _ _)
      | (with_reducible exact laws_eqInstrument.mono _ _ _ _ _)
      | (with_reducible exact laws_eqIntSS.mono _ _ _)
      | (with_reducible exact laws_eqNoteS.mono _ _ _)
      | (with_reducible exact laws_heldIntSS.mono _ _ _)
      | (with_reducible exact laws_markInstrument.mono _ _ _ _)
      | (with_reducible exact laws_markIntSS.mono _ _ _)
      | (with_reducible exact laws_markNoteS.mono _ _ _)
      | (with_reducible exact laws_toInstrument.mono _ _ _)
      | (with_reducible exact laws_toNoteS.mono _ _)
      | (with_reducible exact spec_FastRepeats.mono _ _ _ _)
      | (with_reducible exact LeO.refl _)
      | (with_reducible exact LeO.none _)
      | (with_reducible refine LeO.ite ?_ ?_)
      | (with_reducible refine LeO.bind ?_ (fun _ => ?_))
      | exact ih0 _ _ _ _ _ _ _ _ _ _ _
      | exact ih1 _ _ _ _ _ _ _
      | exact ih2 _ _ _
      | exact impl_FastRepeats.mono _ _ _ _
      | exact laws_eqInstrument.mono _ _ _ _ _
      | exact laws_eqIntSS.mono _ _ _
      | exact laws_eqNoteS.mono _ _ _
      | exact laws_heldIntSS.mono _ _ _
      | exact laws_markInstrument.mono _ _ _ _
      | exact laws_markIntSS.mono _ _ _
      | exact laws_markNoteS.mono _ _ _
      | exact laws_toInstrument.mono _ _ _
      | exact laws_toNoteS.mono _ _
      | exact spec_FastRepeats.mono _ _ _ _
      | exact LeO.none _
      | refine LeO.ite ?_ ?_
      | refine LeO.bind ?_ (fun _ => ?_)
    · intro y0 y1 y2 y3 y4 y5 y6
      unfold laws_FnExactFastRepeats.j1
      repeat' first
      | (with_reducible exact ih0 _ _ _ _ _ _ _ _ _ _ _)
      | (with_reducible exact ih1 _ _ _ _ _ _ _)
      | (with_reducible exact ih2 _ _ _)
      | (with_reducible exact impl_FastRepeats.mono _ _ _ _)
      | (with_reducible exact laws_eqInstrument.mono _ _ _ _ _)
      | (with_reducible exact laws_eqIntSS.mono _ _ _)
      | (with_reducible exact laws_eqNoteS.mono _ _ _)
      | (with_reducible exact laws_heldIntSS.mono _ _ _)
      | (with_reducible exact laws_markInstrument.mono _ _ _ _)
      | (with_reducible exact laws_markIntSS.mono _ _ _)
      | (with_reducible exact laws_markNoteS.mono _ _ _)
      | (with_reducible exact laws_toInstrument.mono _ _ _)
      | (with_reducible exact laws_toNoteS.mono _ _)
      | (with_reducible exact spec_FastRepeats.mono _ _ _ _)
      | (with_reducible exact LeO.refl _)
      | (with_reducible exact LeO.none _)
      | (with_reducible refine LeO.ite ?_ ?_)
      | (with_reducible refine LeO.bind ?_ (fun _ => ?_))
      | exact ih0 _ _ _ _ _ _ _ _ _ _ _
      | exact ih1 _ _ _ _ _ _ _
      | exact ih2 _ _ _
      | exact impl_FastRepeats.mono _ _ _ _
      | exact laws_eqInstrument.mono _ _ _ _ _
      | exact laws_eqIntSS.mono _ _ _
      | exact laws_eqNoteS.mono _ _ _
      | exact laws_heldIntSS.mono _ _ _
      | exact laws_markInstrument.mono _ _ _ _
      | exact laws_markIntSS.mono _ _ _
      | exact laws_markNoteS.mono _ _ _
      | exact laws_toInstrument.mono _ _ _
      | exact laws_toNoteS.mono _ _
      | exact spec_FastRepeats.mono _ _ _ _
      | exact LeO.none _
      | refine LeO.ite ?_ ?_
      | refine LeO.bind ?_ (fun _ => ?_)
    · intro y0 y1 y2
      unfold laws_FnExactFastRepeats.j2
      repeat' first
      | (with_reducible exact ih0 _ _ _ _ _ _ _ _ _ _ _)
      | (with_reducible exact ih1 _ _ _ _ _ _ _)
      | (with_reducible exact ih2 _ _ _)
      | (with_reducible exact impl_FastRepeats.mono _ _ _ _)
      | (with_reducible exact laws_eqInstrument.mono _ _ _ _ _)
      | (with_reducible exact laws_eqIntSS.mono _ _ _)
      | (with_reducible exact laws_eqNoteS.mono _ _ _)
      | (with_reducible exact laws_heldIntSS.mono _ _ _)
      | (with_reducible exact laws_markInstrument.mono _ _ _ _)
      | (with_reducible exact laws_markIntSS.mono _ _ _)
      | (with_reducible exact laws_markNoteS.mono _ _ _)
      | (with_reducible exact laws_toInstrument.mono _ _ _)
      | (with_reducible exact laws_toNoteS.mono _ _)
      | (with_reducible exact spec_FastRepeats.mono _ _ _ _)
      | (with_reducible exact LeO.refl _)
      | (with_reducible exact LeO.none _)
      | (with_reducible refine LeO.ite ?_ ?_)
      | (with_reducible refine LeO.bind ?_ (fun _ => ?_))
      | exact ih0 _ _ _ _ _ _ _ _ _ _ _
      | exact ih1 _ _ _ _ _ _ _
      | exact ih2 _ _ _
      | exact impl_FastRepeats.mono _ _ _ _
      | exact laws_eqInstrument.mono _ _ _ _ _
      | exact laws_eqIntSS.mono _ _ _
      | exact laws_eqNoteS.mono _ _ _
      | exact laws_heldIntSS.mono _ _ _
      | exact laws_markInstrument.mono _ _ _ _
      | exact laws_markIntSS.mono _ _ _
      | exact laws_markNoteS.mono _ _ _
      | exact laws_toInstrument.mono _ _ _
      | exact laws_toNoteS.mono _ _
      | exact spec_FastRepeats.mono _ _ _ _
      | exact LeO.none _
      | refine LeO.ite ?_ ?_
      | refine LeO.bind ?_ (fun _ => ?_)
theorem laws_FnExactFastRepeats.mono : ∀ a0 a1 a2 k, LeO (laws_FnExactFastRepeats.f k a0 a1 a2) (laws_FnExactFastRepeats.f (k + 1) a0 a1 a2) := by
  intro a0 a1 a2 k
  obtain ⟨ih0, ih1, ih2⟩ := laws_FnExactFastRepeats.mono_l k
  unfold laws_FnExactFastRepeats.f
  repeat' first
      | (with_reducible exact ih0 _ _ _ _ _ _ _ _ _ _ _)
      | (with_reducible exact ih1 _ _ _ _ _ _ _)
      | (with_reducible exact ih2 _ _ _)
      | (with_reducible exact impl_FastRepeats.mono _ _ _ _)
      | (with_reducible exact laws_eqInstrument.mono _ _ _ _ _)
      | (with_reducible exact laws_eqIntSS.mono _ _ _)
      | (with_reducible exact laws_eqNoteS.mono _ _ _)
      | (with_reducible exact laws_heldIntSS.mono _ _ _)
      | (with_reducible exact laws_markInstrument.mono _ _ _ _)
      | (with_reducible exact laws_markIntSS.mono _ _ _)
      | (with_reducible exact laws_markNoteS.mono _ _ _)
      | (with_reducible exact laws_toInstrument.mono _ _ _)
      | (with_reducible exact laws_toNoteS.mono _ _)
      | (with_reducible exact spec_FastRepeats.mono _ _ _ _)
      | (with_reducible exact LeO.refl _)
      | (with_reducible exact LeO.none _)
      | (with_reducible refine LeO.ite ?_ ?_)
      | (with_reducible refine LeO.bind ?_ (fun _ => ?_))
      | exact ih0 _ _ _ _ _ _ _ _ _ _ _
      | exact ih1 _ _ _ _ _ _ _
      | exact ih2 _ _ _
      | exact impl_FastRepeats.mono _ _ _ _
      | exact laws_eqInstrument.mono _ _ _ _ _
      | exact laws_eqIntSS.mono _ _ _
      | exact laws_eqNoteS.mono _ _ _
      | exact laws_heldIntSS.mono _ _ _
      | exact laws_markInstrument.mono _ _ _ _
      | exact laws_markIntSS.mono _ _ _
      | exact laws_markNoteS.mono _ _ _
      | exact laws_toInstrument.mono _ _ _
      | exact laws_toNoteS.mono _ _
      | exact spec_FastRepeats.mono _ _ _ _
      | exact LeO.none _
      | refine LeO.ite ?_ ?_
      | refine LeO.bind ?_ (fun _ => ?_)
set_option maxHeartbeats 8000000 in
set_option maxRecDepth 100000 in
theorem laws_FnExactFastRepeats.calls (k : Nat) (A0_0 : Option Addr) (c0_0 : Nat) (l0_0 : List Int) (a0_1 : Int) (A1 : Option Addr) (c1 : Nat) (l1 : List (S94)) (r : Bool) (w : World) (hr0_0 : Kd.C (Kd.int .i64) w A0_0 l0_0.length l0_0) (hc0_0 : l0_0.length ≤ c0_0) (hr1 : Kd.C k94 w A1 l1.length l1) (hc1 : l1.length ≤ c1) (h : laws_FnExactFastRepeats.f k l0_0 a0_1 l1 = some r) :
    Calls Try.prog 9 #[.agg #[.slice A0_0 l0_0.length c0_0, .int .i64 a0_1], .slice A1 l1.length c1] w fun e w' => e = .returned (.bool r) ∧ Below w.heap.size w w' := by
  have hu55 := Try.underlying55
  have hu59 := Try.underlying59
  have HR0_0 := Aside0.mk hr0_0
  have HC0_0 := Aside0.mk hc0_0
  clear hr0_0 hc0_0
  have HR1 := Aside0.mk hr1
  have HC1 := Aside0.mk hc1
  clear hr1 hc1
  have HB := Aside0.mk (Below.refl w.heap.size w)
  have H : ((laws_szInstrument.f l0_0 a0_1 1048576).bind fun t236 => (if t236 < 0 then (some true) else ((laws_szNoteS.f l1 t236).bind fun t237 => (if t237 < 0 then (some true) else ((laws_toInstrument.f k l0_0 a0_1).bind fun bt238 => ((laws_toNoteS.f k l1).bind fun t242 => ((spec_FastRepeats.f k bt238.1 bt238.2 t242).bind fun bt245 => ((laws_toInstrument.f k l0_0 a0_1).bind fun bt249 => ((laws_toNoteS.f k l1).bind fun t254 => ((impl_FastRepeats.f k bt249.1 bt249.2 t254).bind fun bt257 => ((laws_eqIntSS.f k bt257.1 bt245.1).bind fun t261 => (if t261 = true then (laws_FnExactFastRepeats.j0 k l1 bt245.1 bt245.2 t254 bt257.1 bt257.2 (bt257.2 != bt245.2) l0_0 a0_1 bt249.1 bt249.2) else (laws_FnExactFastRepeats.j0 k l1 bt245.1 bt245.2 t254 bt257.1 bt257.2 true l0_0 a0_1 bt249.1 bt249.2))))))))))))) = some r := h
  clear h
  replace H := Option.bind_eq_some_iff.mp H
  obtain ⟨t236, A30, H⟩ := H
  replace H : (if t236 < 0 then (some true) else ((laws_szNoteS.f l1 t236).bind fun t237 => (if t237 < 0 then (some true) else ((laws_toInstrument.f k l0_0 a0_1).bind fun bt238 => ((laws_toNoteS.f k l1).bind fun t242 => ((spec_FastRepeats.f k bt238.1 bt238.2 t242).bind fun bt245 => ((laws_toInstrument.f k l0_0 a0_1).bind fun bt249 => ((laws_toNoteS.f k l1).bind fun t254 => ((impl_FastRepeats.f k bt249.1 bt249.2 t254).bind fun bt257 => ((laws_eqIntSS.f k bt257.1 bt245.1).bind fun t261 => (if t261 = true then (laws_FnExactFastRepeats.j0 k l1 bt245.1 bt245.2 t254 bt257.1 bt257.2 (bt257.2 != bt245.2) l0_0 a0_1 bt249.1 bt249.2) else (laws_FnExactFastRepeats.j0 k l1 bt245.1 bt245.2 t254 bt257.1 bt257.2 true l0_0 a0_1 bt249.1 bt249.2)))))))))))) = some r := H
  have A3 := Aside0.mk A30
  clear A30
  by_cases c4 : t236 < 0
  · rw [if_pos c4] at H
    have c4b0 : decide (t236 < 0) = true := decide_eq_true c4
    clear c4
    obtain rfl := Option.some.inj H
    go_enter Try.func9, Try.ntmps9
    go_wp2_with (first | ((with_reducible refine gate_dst (N := 2) rfl ?_); refine box_event ?hg (N := 2) ?hd (cs := #[.slice A0_0 l0_0.length c0_0, .int .i64 a0_1]) (t := 55) ?hr ?_; (case hd => rfl); (case hg => rfl); (case hr => first | (go_simp; done) | (go_simp; rfl)); intro gb235 hg w5 hbox hb; have n0_ := Aside0.mk (below_step (by repeat (first | (with_reducible first | exact HB.out | apply below_alloc | apply pw_below_drewN | apply below_drew1) | exact HB.out)) hb); have n1_ := Aside0.mk (hbox); have n2_ := Aside0.mk ((by rw [hg]; exact (below_size (by repeat (first | (with_reducible first | exact HB.out | apply below_alloc | apply pw_below_drewN | apply below_drew1) | exact HB.out))) : w.heap.size ≤ gb235)); have n3_ := Aside0.mk ((by rw [hg]; exact (below_size (by repeat (first | (with_reducible first | exact HB.out | apply below_alloc | apply pw_below_drewN | apply below_drew1) | exact HB.out))) : w.heap.size ≤ gb235)); clear HB; have HB := n0_; have BK235 := n1_; have GW235 := n2_; have GE235 := n3_; clear n0_ n1_ n2_ n3_; clear hb hbox hg; have hcz6_0 : w5.cell? ⟨gb235, 0, none⟩ = some (.slice A0_0 l0_0.length c0_0) := (blk_cell BK235.out 0).trans rfl; have hcz6_1 : w5.cell? ⟨gb235, 1, none⟩ = some (.int .i64 a0_1) := (blk_cell BK235.out 1).trans rfl; have hfz6_0 := blk_frozen BK235.out 0; have hfz6_1 := blk_frozen BK235.out 1) | ((with_reducible refine gate_callee (f := 35) rfl ?_); refine goesL_ (some 19) rfl rfl Try.func35 (by kernel_rfl) rfl #[.agg #[.slice A0_0 l0_0.length c0_0, .int .i64 a0_1], .int .i64 1048576] rfl (by (try simp only [List.map_toArray, List.map_cons, List.map_nil]); first | done | rfl | (simp only [List.length_drop, List.length_take]; rfl)) ?_; (with_reducible refine (laws_szInstrument.calls _ _ l0_0 a0_1 1048576 t236 _ ?side1 ?side2 A3.out).mono ?_); (case side1 => repeat (first | exact (Kd.C_below HR0_0.out HB.out) | (with_reducible refine Kd.C_alloc ?_ _) | (with_reducible refine Kd.C_drewN ?_ _) | (with_reducible refine Kd.C_drew ?_))); (case side2 => exact HC0_0.out); rintro e w7 ⟨rfl, hb⟩; refine ⟨_, rfl, ?_⟩; have n0_ := Aside0.mk (blk_below (g := gb235) (o := .cells #[.slice A0_0 l0_0.length c0_0, .int .i64 a0_1] 55 (0, 0)) (by (with_reducible repeat (first | refine blk_drewN ?_ _ | refine blk_drew ?_ | refine blk_alloc ?_ _)); exact BK235.out) hb); have n1_ := Aside0.mk (below_step (by repeat (first | (with_reducible first | exact HB.out | apply below_alloc | apply pw_below_drewN | apply below_drew1 | refine below_set ?_ GE235.out) | exact HB.out)) hb); clear BK235 HB; have BK235 := n0_; have HB := n1_; clear n0_ n1_; (try clear hb); (try clear hb2); (try clear hk); (try clear hi)))
    go_ret
    exact ⟨by first | rfl | (simp [errW_none, errW_some] <;> rfl) | (simp [*, errW_none, errW_some] <;> rfl), by repeat (first | (with_reducible first | exact HB.out | apply below_alloc | apply pw_below_drewN | apply below_drew1 | refine below_set ?_ GE235.out) | exact HB.out)⟩
  · rw [if_neg c4] at H
    have c4b0 : decide (t236 < 0) = false := decide_eq_false c4
    clear c4
    replace H := Option.bind_eq_some_iff.mp H
    obtain ⟨t237, A80, H⟩ := H
    replace H : (if t237 < 0 then (some true) else ((laws_toInstrument.f k l0_0 a0_1).bind fun bt238 => ((laws_toNoteS.f k l1).bind fun t242 => ((spec_FastRepeats.f k bt238.1 bt238.2 t242).bind fun bt245 => ((laws_toInstrument.f k l0_0 a0_1).bind fun bt249 => ((laws_toNoteS.f k l1).bind fun t254 => ((impl_FastRepeats.f k bt249.1 bt249.2 t254).bind fun bt257 => ((laws_eqIntSS.f k bt257.1 bt245.1).bind fun t261 => (if t261 = true then (laws_FnExactFastRepeats.j0 k l1 bt245.1 bt245.2 t254 bt257.1 bt257.2 (bt257.2 != bt245.2) l0_0 a0_1 bt249.1 bt249.2) else (laws_FnExactFastRepeats.j0 k l1 bt245.1 bt245.2 t254 bt257.1 bt257.2 true l0_0 a0_1 bt249.1 bt249.2)))))))))) = some r := H
    have A8 := Aside0.mk A80
    clear A80
    by_cases c9 : t237 < 0
    · rw [if_pos c9] at H
      have c9b0 : decide (t237 < 0) = true := decide_eq_true c9
      clear c9
      obtain rfl := Option.some.inj H
      go_enter Try.func9, Try.ntmps9
      go_wp2_with (first | ((with_reducible refine gate_dst (N := 2) rfl ?_); refine box_event ?hg (N := 2) ?hd (cs := #[.slice A0_0 l0_0.length c0_0, .int .i64 a0_1]) (t := 55) ?hr ?_; (case hd => rfl); (case hg => rfl); (case hr => first | (go_simp; done) | (go_simp; rfl)); intro gb235 hg w10 hbox hb; have n0_ := Aside0.mk (below_step (by repeat (first | (with_reducible first | exact HB.out | apply below_alloc | apply pw_below_drewN | apply below_drew1) | exact HB.out)) hb); have n1_ := Aside0.mk (hbox); have n2_ := Aside0.mk ((by rw [hg]; exact (below_size (by repeat (first | (with_reducible first | exact HB.out | apply below_alloc | apply pw_below_drewN | apply below_drew1) | exact HB.out))) : w.heap.size ≤ gb235)); have n3_ := Aside0.mk ((by rw [hg]; exact (below_size (by repeat (first | (with_reducible first | exact HB.out | apply below_alloc | apply pw_below_drewN | apply below_drew1) | exact HB.out))) : w.heap.size ≤ gb235)); clear HB; have HB := n0_; have BK235 := n1_; have GW235 := n2_; have GE235 := n3_; clear n0_ n1_ n2_ n3_; clear hb hbox hg; have hcz11_0 : w10.cell? ⟨gb235, 0, none⟩ = some (.slice A0_0 l0_0.length c0_0) := (blk_cell BK235.out 0).trans rfl; have hcz11_1 : w10.cell? ⟨gb235, 1, none⟩ = some (.int .i64 a0_1) := (blk_cell BK235.out 1).trans rfl; have hfz11_0 := blk_frozen BK235.out 0; have hfz11_1 := blk_frozen BK235.out 1) | ((with_reducible refine gate_callee (f := 35) rfl ?_); refine goesL_ (some 19) rfl rfl Try.func35 (by kernel_rfl) rfl #[.agg #[.slice A0_0 l0_0.length c0_0, .int .i64 a0_1], .int .i64 1048576] rfl (by (try simp only [List.map_toArray, List.map_cons, List.map_nil]); first | done | rfl | (simp only [List.length_drop, List.length_take]; rfl)) ?_; (with_reducible refine (laws_szInstrument.calls _ _ l0_0 a0_1 1048576 t236 _ ?side1 ?side2 A3.out).mono ?_); (case side1 => repeat (first | exact (Kd.C_below HR0_0.out HB.out) | (with_reducible refine Kd.C_alloc ?_ _) | (with_reducible refine Kd.C_drewN ?_ _) | (with_reducible refine Kd.C_drew ?_))); (case side2 => exact HC0_0.out); rintro e w12 ⟨rfl, hb⟩; refine ⟨_, rfl, ?_⟩; have n0_ := Aside0.mk (blk_below (g := gb235) (o := .cells #[.slice A0_0 l0_0.length c0_0, .int .i64 a0_1] 55 (0, 0)) (by (with_reducible repeat (first | refine blk_drewN ?_ _ | refine blk_drew ?_ | refine blk_alloc ?_ _)); exact BK235.out) hb); have n1_ := Aside0.mk (below_step (by repeat (first | (with_reducible first | exact HB.out | apply below_alloc | apply pw_below_drewN | apply below_drew1 | refine below_set ?_ GE235.out) | exact HB.out)) hb); clear BK235 HB; have BK235 := n0_; have HB := n1_; clear n0_ n1_; (try clear hb); (try clear hb2); (try clear hk); (try clear hi)) | ((with_reducible refine gate_callee (f := 13) rfl ?_); refine goesL_ (some 24) rfl rfl Try.func13 (by kernel_rfl) rfl #[.slice A1 l1.length c1, .int .i64 t236] rfl (by (try simp only [List.map_toArray, List.map_cons, List.map_nil]); first | done | rfl | (simp only [List.length_drop, List.length_take]; rfl)) ?_; (with_reducible refine (laws_szNoteS.calls _ _ l1 t236 t237 _ ?side1 ?side2 A8.out).mono ?_); (case side1 => repeat (first | exact (Kd.C_below HR1.out HB.out) | (with_reducible refine Kd.C_alloc ?_ _) | (with_reducible refine Kd.C_drewN ?_ _) | (with_reducible refine Kd.C_drew ?_))); (case side2 => exact HC1.out); rintro e w' ⟨rfl, ⟨nd, rfl⟩⟩; refine ⟨_, rfl, ?_⟩))
      go_ret
      exact ⟨by first | rfl | (simp [errW_none, errW_some] <;> rfl) | (simp [*, errW_none, errW_some] <;> rfl), by repeat (first | (with_reducible first | exact HB.out | apply below_alloc | apply pw_below_drewN | apply below_drew1 | refine below_set ?_ GE235.out) | exact HB.out)⟩
    · rw [if_neg c9] at H
      have c9b0 : decide (t237 < 0) = false := decide_eq_false c9
      clear c9
      replace H := Option.bind_eq_some_iff.mp H
      obtain ⟨⟨t238, t241⟩, A130, H⟩ := H
      replace H : ((laws_toNoteS.f k l1).bind fun t242 => ((spec_FastRepeats.f k t238 t241 t242).bind fun bt245 => ((laws_toInstrument.f k l0_0 a0_1).bind fun bt249 => ((laws_toNoteS.f k l1).bind fun t254 => ((impl_FastRepeats.f k bt249.1 bt249.2 t254).bind fun bt257 => ((laws_eqIntSS.f k bt257.1 bt245.1).bind fun t261 => (if t261 = true then (laws_FnExactFastRepeats.j0 k l1 bt245.1 bt245.2 t254 bt257.1 bt257.2 (bt257.2 != bt245.2) l0_0 a0_1 bt249.1 bt249.2) else (laws_FnExactFastRepeats.j0 k l1 bt245.1 bt245.2 t254 bt257.1 bt257.2 true l0_0 a0_1 bt249.1 bt249.2)))))))) = some r := H
      have A13 := Aside0.mk A130
      clear A130
      replace H := Option.bind_eq_some_iff.mp H
      obtain ⟨t242, A140, H⟩ := H
      replace H : ((spec_FastRepeats.f k t238 t241 t242).bind fun bt245 => ((laws_toInstrument.f k l0_0 a0_1).bind fun bt249 => ((laws_toNoteS.f k l1).bind fun t254 => ((impl_FastRepeats.f k bt249.1 bt249.2 t254).bind fun bt257 => ((laws_eqIntSS.f k bt257.1 bt245.1).bind fun t261 => (if t261 = true then (laws_FnExactFastRepeats.j0 k l1 bt245.1 bt245.2 t254 bt257.1 bt257.2 (bt257.2 != bt245.2) l0_0 a0_1 bt249.1 bt249.2) else (laws_FnExactFastRepeats.j0 k l1 bt245.1 bt245.2 t254 bt257.1 bt257.2 true l0_0 a0_1 bt249.1 bt249.2))))))) = some r := H
      have A14 := Aside0.mk A140
      clear A140
      replace H := Option.bind_eq_some_iff.mp H
      obtain ⟨⟨t245, t248⟩, A150, H⟩ := H
      replace H : ((laws_toInstrument.f k l0_0 a0_1).bind fun bt249 => ((laws_toNoteS.f k l1).bind fun t254 => ((impl_FastRepeats.f k bt249.1 bt249.2 t254).bind fun bt257 => ((laws_eqIntSS.f k bt257.1 t245).bind fun t261 => (if t261 = true then (laws_FnExactFastRepeats.j0 k l1 t245 t248 t254 bt257.1 bt257.2 (bt257.2 != t248) l0_0 a0_1 bt249.1 bt249.2) else (laws_FnExactFastRepeats.j0 k l1 t245 t248 t254 bt257.1 bt257.2 true l0_0 a0_1 bt249.1 bt249.2)))))) = some r := H
      have A15 := Aside0.mk A150
      clear A150
      replace H := Option.bind_eq_some_iff.mp H
      obtain ⟨⟨t249, t252⟩, A160, H⟩ := H
      replace H : ((laws_toNoteS.f k l1).bind fun t254 => ((impl_FastRepeats.f k t249 t252 t254).bind fun bt257 => ((laws_eqIntSS.f k bt257.1 t245).bind fun t261 => (if t261 = true then (laws_FnExactFastRepeats.j0 k l1 t245 t248 t254 bt257.1 bt257.2 (bt257.2 != t248) l0_0 a0_1 t249 t252) else (laws_FnExactFastRepeats.j0 k l1 t245 t248 t254 bt257.1 bt257.2 true l0_0 a0_1 t249 t252))))) = some r := H
      have A16 := Aside0.mk A160
      clear A160
      replace H := Option.bind_eq_some_iff.mp H
      obtain ⟨t254, A170, H⟩ := H
      replace H : ((impl_FastRepeats.f k t249 t252 t254).bind fun bt257 => ((laws_eqIntSS.f k bt257.1 t245).bind fun t261 => (if t261 = true then (laws_FnExactFastRepeats.j0 k l1 t245 t248 t254 bt257.1 bt257.2 (bt257.2 != t248) l0_0 a0_1 t249 t252) else (laws_FnExactFastRepeats.j0 k l1 t245 t248 t254 bt257.1 bt257.2 true l0_0 a0_1 t249 t252)))) = some r := H
      have A17 := Aside0.mk A170
      clear A170
      replace H := Option.bind_eq_some_iff.mp H
      obtain ⟨⟨t257, t260⟩, A180, H⟩ := H
      replace H : ((laws_eqIntSS.f k t257 t245).bind fun t261 => (if t261 = true then (laws_FnExactFastRepeats.j0 k l1 t245 t248 t254 t257 t260 (t260 != t248) l0_0 a0_1 t249 t252) else (laws_FnExactFastRepeats.j0 k l1 t245 t248 t254 t257 t260 true l0_0 a0_1 t249 t252))) = some r := H
      have A18 := Aside0.mk A180
      clear A180
      have HC19 := Aside0.mk H
      clear H
      go_enter Try.func9, Try.ntmps9
      go_upto_region 12 with (first | ((with_reducible refine gate_dst (N := 2) rfl ?_); refine box_event ?hg (N := 2) ?hd (cs := #[.slice A0_0 l0_0.length c0_0, .int .i64 a0_1]) (t := 55) ?hr ?_; (case hd => rfl); (case hg => rfl); (case hr => first | (go_simp; done) | (go_simp; rfl)); intro gb235 hg w20 hbox hb; have n0_ := Aside0.mk (below_step (by repeat (first | (with_reducible first | exact HB.out | apply below_alloc | apply pw_below_drewN | apply below_drew1) | exact HB.out)) hb); have n1_ := Aside0.mk (hbox); have n2_ := Aside0.mk ((by rw [hg]; exact (below_size (by repeat (first | (with_reducible first | exact HB.out | apply below_alloc | apply pw_below_drewN | apply below_drew1) | exact HB.out))) : w.heap.size ≤ gb235)); have n3_ := Aside0.mk ((by rw [hg]; exact (below_size (by repeat (first | (with_reducible first | exact HB.out | apply below_alloc | apply pw_below_drewN | apply below_drew1) | exact HB.out))) : w.heap.size ≤ gb235)); clear HB; have HB := n0_; have BK235 := n1_; have GW235 := n2_; have GE235 := n3_; clear n0_ n1_ n2_ n3_; clear hb hbox hg; have hcz21_0 : w20.cell? ⟨gb235, 0, none⟩ = some (.slice A0_0 l0_0.length c0_0) := (blk_cell BK235.out 0).trans rfl; have hcz21_1 : w20.cell? ⟨gb235, 1, none⟩ = some (.int .i64 a0_1) := (blk_cell BK235.out 1).trans rfl; have hfz21_0 := blk_frozen BK235.out 0; have hfz21_1 := blk_frozen BK235.out 1) | ((with_reducible refine gate_callee (f := 35) rfl ?_); refine goesL_ (some 19) rfl rfl Try.func35 (by kernel_rfl) rfl #[.agg #[.slice A0_0 l0_0.length c0_0, .int .i64 a0_1], .int .i64 1048576] rfl (by (try simp only [List.map_toArray, List.map_cons, List.map_nil]); first | done | rfl | (simp only [List.length_drop, List.length_take]; rfl)) ?_; (with_reducible refine (laws_szInstrument.calls _ _ l0_0 a0_1 1048576 t236 _ ?side1 ?side2 A3.out).mono ?_); (case side1 => repeat (first | exact (Kd.C_below HR0_0.out HB.out) | (with_reducible refine Kd.C_alloc ?_ _) | (with_reducible refine Kd.C_drewN ?_ _) | (with_reducible refine Kd.C_drew ?_))); (case side2 => exact HC0_0.out); rintro e w22 ⟨rfl, hb⟩; refine ⟨_, rfl, ?_⟩; have n0_ := Aside0.mk (blk_below (g := gb235) (o := .cells #[.slice A0_0 l0_0.length c0_0, .int .i64 a0_1] 55 (0, 0)) (by (with_reducible repeat (first | refine blk_drewN ?_ _ | refine blk_drew ?_ | refine blk_alloc ?_ _)); exact BK235.out) hb); have n1_ := Aside0.mk (below_step (by repeat (first | (with_reducible first | exact HB.out | apply below_alloc | apply pw_below_drewN | apply below_drew1 | refine below_set ?_ GE235.out) | exact HB.out)) hb); clear BK235 HB; have BK235 := n0_; have HB := n1_; clear n0_ n1_; (try clear hb); (try clear hb2); (try clear hk); (try clear hi)) | ((with_reducible refine gate_callee (f := 13) rfl ?_); refine goesL_ (some 24) rfl rfl Try.func13 (by kernel_rfl) rfl #[.slice A1 l1.length c1, .int .i64 t236] rfl (by (try simp only [List.map_toArray, List.map_cons, List.map_nil]); first | done | rfl | (simp only [List.length_drop, List.length_take]; rfl)) ?_; (with_reducible refine (laws_szNoteS.calls _ _ l1 t236 t237 _ ?side1 ?side2 A8.out).mono ?_); (case side1 => repeat (first | exact (Kd.C_below HR1.out HB.out) | (with_reducible refine Kd.C_alloc ?_ _) | (with_reducible refine Kd.C_drewN ?_ _) | (with_reducible refine Kd.C_drew ?_))); (case side2 => exact HC1.out); rintro e w' ⟨rfl, ⟨nd, rfl⟩⟩; refine ⟨_, rfl, ?_⟩; (try (rw [drewN_self w22]; generalize hq_ : World.drewN w22 _ = w22; have n0_ : Aside0 (w22.heap[gb235]? = some (.cells #[.slice A0_0 l0_0.length c0_0, .int .i64 a0_1] 55 (0, 0))) := ⟨by rw [← hq_]; exact (by (with_reducible repeat (first | refine blk_drewN ?_ _ | refine blk_drew ?_ | refine blk_alloc ?_ _)); exact BK235.out)⟩; have n1_ : Aside0 (Below w.heap.size w w22) := ⟨by rw [← hq_]; exact (by repeat (first | (with_reducible first | exact HB.out | apply below_alloc | apply pw_below_drewN | apply below_drew1 | refine below_set ?_ GE235.out) | exact HB.out))⟩; clear BK235 HB hq_; have BK235 := n0_; have HB := n1_; clear n0_ n1_)); have hcz23_0 : w22.cell? ⟨gb235, 0, none⟩ = some (.slice A0_0 l0_0.length c0_0) := (blk_cell BK235.out 0).trans rfl; have hcz23_1 : w22.cell? ⟨gb235, 1, none⟩ = some (.int .i64 a0_1) := (blk_cell BK235.out 1).trans rfl; have hfz23_0 := blk_frozen BK235.out 0; have hfz23_1 := blk_frozen BK235.out 1) | ((with_reducible refine gate_callee (f := 37) rfl ?_); refine goesL_ (some 29) rfl rfl Try.func37 (by kernel_rfl) rfl #[.agg #[.slice A0_0 l0_0.length c0_0, .int .i64 a0_1]] rfl (by (try simp only [List.map_toArray, List.map_cons, List.map_nil]); first | done | rfl | (simp only [List.length_drop, List.length_take]; rfl)) ?_; (with_reducible refine (laws_toInstrument.calls k _ _ l0_0 a0_1 t238 t241 _ ?side1 ?side2 A13.out).mono ?_); (case side1 => repeat (first | exact (Kd.C_below HR0_0.out HB.out) | (with_reducible refine Kd.C_alloc ?_ _) | (with_reducible refine Kd.C_drewN ?_ _) | (with_reducible refine Kd.C_drew ?_))); (case side2 => exact HC0_0.out); rintro e w24 ⟨v239, rfl, ho0, hb⟩; refine ⟨_, rfl, ?_⟩; have n0_ := Aside0.mk (Kd.R_lower ho0 (below_size (by repeat (first | (with_reducible first | exact HB.out | apply below_alloc | apply pw_below_drewN | apply below_drew1 | refine below_set ?_ GE235.out) | exact HB.out)))); have n1_ := Aside0.mk (blk_below (g := gb235) (o := .cells #[.slice A0_0 l0_0.length c0_0, .int .i64 a0_1] 55 (0, 0)) (by (with_reducible repeat (first | refine blk_drewN ?_ _ | refine blk_drew ?_ | refine blk_alloc ?_ _)); exact BK235.out) hb); have n2_ := Aside0.mk (below_step (by repeat (first | (with_reducible first | exact HB.out | apply below_alloc | apply pw_below_drewN | apply below_drew1 | refine below_set ?_ GE235.out) | exact HB.out)) hb); clear BK235 HB; have HO240 := n0_; have BK235 := n1_; have HB := n2_; clear n0_ n1_ n2_; (try clear hb); (try clear hb2); (try clear hk); (try clear hi); (try clear ho0)) | ((with_reducible refine gate_callee (f := 15) rfl ?_); refine goesL_ (some 31) rfl rfl Try.func15 (by kernel_rfl) rfl #[.slice A1 l1.length c1] rfl (by (try simp only [List.map_toArray, List.map_cons, List.map_nil]); first | done | rfl | (simp only [List.length_drop, List.length_take]; rfl)) ?_; (with_reducible refine (laws_toNoteS.calls k _ _ l1 t242 _ ?side1 ?side2 A14.out).mono ?_); (case side1 => repeat (first | exact (Kd.C_below HR1.out HB.out) | (with_reducible refine Kd.C_alloc ?_ _) | (with_reducible refine Kd.C_drewN ?_ _) | (with_reducible refine Kd.C_drew ?_))); (case side2 => exact HC1.out); rintro e w25 ⟨v243, rfl, ho0, hb⟩; refine ⟨_, rfl, ?_⟩; have n0_ := Aside0.mk (Kd.R_below (by (with_reducible repeat (first | apply Kd.R_alloc | apply Kd.R_drewN | apply Kd.R_drew)); exact HO240.out) hb); have n1_ := Aside0.mk (Kd.R_lower ho0 (below_size (by repeat (first | (with_reducible first | exact HB.out | apply below_alloc | apply pw_below_drewN | apply below_drew1 | refine below_set ?_ GE235.out) | exact HB.out)))); have n2_ := Aside0.mk (blk_below (g := gb235) (o := .cells #[.slice A0_0 l0_0.length c0_0, .int .i64 a0_1] 55 (0, 0)) (by (with_reducible repeat (first | refine blk_drewN ?_ _ | refine blk_drew ?_ | refine blk_alloc ?_ _)); exact BK235.out) hb); have n3_ := Aside0.mk (below_step (by repeat (first | (with_reducible first | exact HB.out | apply below_alloc | apply pw_below_drewN | apply below_drew1 | refine below_set ?_ GE235.out) | exact HB.out)) hb); clear HO240 BK235 HB; have HO240 := n0_; have HO244 := n1_; have BK235 := n2_; have HB := n3_; clear n0_ n1_ n2_ n3_; (try clear hb); (try clear hb2); (try clear hk); (try clear hi); (try clear ho0); obtain ⟨Ao26, co26, eo26⟩ := Kd.R_slice HO240.out; subst eo26; obtain ⟨Ao27, co27, eo27⟩ := Kd.R_slice HO244.out; subst eo27) | ((with_reducible refine gate_callee (f := 45) rfl ?_); refine goesL_ (some 32) rfl rfl Try.func45 (by kernel_rfl) rfl #[.agg #[.slice Ao26 t238.length co26, .int .i64 t241], .slice Ao27 t242.length co27] rfl (by (try simp only [List.map_toArray, List.map_cons, List.map_nil]); first | done | rfl | (simp only [List.length_drop, List.length_take]; rfl)) ?_; (with_reducible refine (spec_FastRepeats.calls k _ _ t238 t241 _ _ t242 t245 t248 _ ?side1 ?side2 ?side3 ?side4 A15.out).mono ?_); (case side1 => repeat (first | exact (Kd.R_reads' HO240.out).2.2 | (with_reducible refine Kd.C_alloc ?_ _) | (with_reducible refine Kd.C_drewN ?_ _) | (with_reducible refine Kd.C_drew ?_))); (case side2 => exact (Kd.R_reads' HO240.out).2.1); (case side3 => repeat (first | exact (Kd.R_reads' HO244.out).2.2 | (with_reducible refine Kd.C_alloc ?_ _) | (with_reducible refine Kd.C_drewN ?_ _) | (with_reducible refine Kd.C_drew ?_))); (case side4 => exact (Kd.R_reads' HO244.out).2.1); rintro e w28 ⟨v246, rfl, ho0, hb⟩; refine ⟨_, rfl, ?_⟩; have n0_ := Aside0.mk (Kd.R_below (by (with_reducible repeat (first | apply Kd.R_alloc | apply Kd.R_drewN | apply Kd.R_drew)); exact HO240.out) hb); have n1_ := Aside0.mk (Kd.R_below (by (with_reducible repeat (first | apply Kd.R_alloc | apply Kd.R_drewN | apply Kd.R_drew)); exact HO244.out) hb); have n2_ := Aside0.mk (Kd.S_lower (Kd.S_new' ho0 (Kd.R_lt (by (with_reducible repeat (first | apply Kd.R_alloc | apply Kd.R_drewN | apply Kd.R_drew)); exact HO240.out))) (below_size (by repeat (first | (with_reducible first | exact HB.out | apply below_alloc | apply pw_below_drewN | apply below_drew1 | refine below_set ?_ GE235.out) | exact HB.out)))); have n3_ := Aside0.mk (blk_below (g := gb235) (o := .cells #[.slice A0_0 l0_0.length c0_0, .int .i64 a0_1] 55 (0, 0)) (by (with_reducible repeat (first | refine blk_drewN ?_ _ | refine blk_drew ?_ | refine blk_alloc ?_ _)); exact BK235.out) hb); have n4_ := Aside0.mk (below_step (by repeat (first | (with_reducible first | exact HB.out | apply below_alloc | apply pw_below_drewN | apply below_drew1 | refine below_set ?_ GE235.out) | exact HB.out)) hb); clear HO240 HO244 BK235 HB; have HO240 := n0_; have HO244 := n1_; have HO247 := n2_; have BK235 := n3_; have HB := n4_; clear n0_ n1_ n2_ n3_ n4_; (try clear hb); (try clear hb2); (try clear hk); (try clear hi); (try clear ho0); have hcz29_0 : w28.cell? ⟨gb235, 0, none⟩ = some (.slice A0_0 l0_0.length c0_0) := (blk_cell BK235.out 0).trans rfl; have hcz29_1 : w28.cell? ⟨gb235, 1, none⟩ = some (.int .i64 a0_1) := (blk_cell BK235.out 1).trans rfl; have hfz29_0 := blk_frozen BK235.out 0; have hfz29_1 := blk_frozen BK235.out 1) | ((with_reducible refine gate_callee (f := 37) rfl ?_); refine goesL_ (some 36) rfl rfl Try.func37 (by kernel_rfl) rfl #[.agg #[.slice A0_0 l0_0.length c0_0, .int .i64 a0_1]] rfl (by (try simp only [List.map_toArray, List.map_cons, List.map_nil]); first | done | rfl | (simp only [List.length_drop, List.length_take]; rfl)) ?_; (with_reducible refine (laws_toInstrument.calls k _ _ l0_0 a0_1 t249 t252 _ ?side1 ?side2 A16.out).mono ?_); (case side1 => repeat (first | exact (Kd.C_below HR0_0.out HB.out) | (with_reducible refine Kd.C_alloc ?_ _) | (with_reducible refine Kd.C_drewN ?_ _) | (with_reducible refine Kd.C_drew ?_))); (case side2 => exact HC0_0.out); rintro e w30 ⟨v250, rfl, ho0, hb⟩; refine ⟨_, rfl, ?_⟩; have n0_ := Aside0.mk (Kd.R_elder' (by (with_reducible repeat (first | apply Kd.R_alloc | apply Kd.R_drewN | apply Kd.R_drew)); exact HO240.out) (Kd.R_base ho0) hb); have n1_ := Aside0.mk (Kd.R_below (by (with_reducible repeat (first | apply Kd.R_alloc | apply Kd.R_drewN | apply Kd.R_drew)); exact HO244.out) hb); have n2_ := Aside0.mk (Kd.S_elder' (by (with_reducible repeat (first | apply Kd.S_alloc | apply Kd.S_drewN | apply Kd.S_drew)); exact HO247.out) (Kd.R_base ho0) hb); have n3_ := Aside0.mk (Kd.R_lower (Kd.R_new' ho0 (Kd.R_lt (by (with_reducible repeat (first | apply Kd.R_alloc | apply Kd.R_drewN | apply Kd.R_drew)); exact HO240.out))) (below_size (by repeat (first | (with_reducible first | exact HB.out | apply below_alloc | apply pw_below_drewN | apply below_drew1 | refine below_set ?_ GE235.out) | exact HB.out)))); have n4_ := Aside0.mk (blk_below (g := gb235) (o := .cells #[.slice A0_0 l0_0.length c0_0, .int .i64 a0_1] 55 (0, 0)) (by (with_reducible repeat (first | refine blk_drewN ?_ _ | refine blk_drew ?_ | refine blk_alloc ?_ _)); exact BK235.out) hb); have n5_ := Aside0.mk (below_step (by repeat (first | (with_reducible first | exact HB.out | apply below_alloc | apply pw_below_drewN | apply below_drew1 | refine below_set ?_ GE235.out) | exact HB.out)) hb); clear HO240 HO244 HO247 BK235 HB; have HO240 := n0_; have HO244 := n1_; have HO247 := n2_; have HO251 := n3_; have BK235 := n4_; have HB := n5_; clear n0_ n1_ n2_ n3_ n4_ n5_; (try clear hb); (try clear hb2); (try clear hk); (try clear hi); (try clear ho0)) | ((with_reducible refine gate_dst (N := 8) rfl ?_); refine box_event ?hg (N := 8) ?hd (cs := #[.slice none 0 0, .int .i64 0]) (t := 59) ?hr ?_; (case hd => rfl); (case hg => rfl); (case hr => first | (go_simp; done) | (go_simp; rfl)); intro gb253 hg w31 hbox hb; have n0_ := Aside0.mk (Kd.R_below (by (with_reducible repeat (first | apply Kd.R_alloc | apply Kd.R_drewN | apply Kd.R_drew)); exact HO240.out) hb); have n1_ := Aside0.mk (Kd.R_below (by (with_reducible repeat (first | apply Kd.R_alloc | apply Kd.R_drewN | apply Kd.R_drew)); exact HO244.out) hb); have n2_ := Aside0.mk (Kd.S_below (by (with_reducible repeat (first | apply Kd.S_alloc | apply Kd.S_drewN | apply Kd.S_drew)); exact HO247.out) hb); have n3_ := Aside0.mk (Kd.R_below (by (with_reducible repeat (first | apply Kd.R_alloc | apply Kd.R_drewN | apply Kd.R_drew)); exact HO251.out) hb); have n4_ := Aside0.mk (blk_below (g := gb235) (o := .cells #[.slice A0_0 l0_0.length c0_0, .int .i64 a0_1] 55 (0, 0)) (by (with_reducible repeat (first | refine blk_drewN ?_ _ | refine blk_drew ?_ | refine blk_alloc ?_ _)); exact BK235.out) hb); have n5_ := Aside0.mk (below_step (by repeat (first | (with_reducible first | exact HB.out | apply below_alloc | apply pw_below_drewN | apply below_drew1 | refine below_set ?_ GE235.out) | exact HB.out)) hb); have n6_ := Aside0.mk (hbox); have n7_ := Aside0.mk ((by rw [hg]; exact (below_size (by repeat (first | (with_reducible first | exact HB.out | apply below_alloc | apply pw_below_drewN | apply below_drew1 | refine below_set ?_ GE235.out) | exact HB.out))) : w.heap.size ≤ gb253)); have n8_ := Aside0.mk ((by rw [hg]; exact (below_size (by repeat (first | (with_reducible first | exact HB.out | apply below_alloc | apply pw_below_drewN | apply below_drew1 | refine below_set ?_ GE235.out) | exact HB.out))) : w.heap.size ≤ gb253)); have n9_ := Aside0.mk ((by rw [hg]; exact Nat.ne_of_lt (blk_lt (g := gb235) (o := .cells #[.slice A0_0 l0_0.length c0_0, .int .i64 a0_1] 55 (0, 0)) (by (with_reducible repeat (first | refine blk_drewN ?_ _ | refine blk_drew ?_ | refine blk_alloc ?_ _)); exact BK235.out)) : gb235 ≠ gb253)); have n10_ := Aside0.mk ((by rw [hg]; exact Nat.ne_of_gt (blk_lt (g := gb235) (o := .cells #[.slice A0_0 l0_0.length c0_0, .int .i64 a0_1] 55 (0, 0)) (by (with_reducible repeat (first | refine blk_drewN ?_ _ | refine blk_drew ?_ | refine blk_alloc ?_ _)); exact BK235.out)) : gb253 ≠ gb235)); clear HO240 HO244 HO247 HO251 BK235 HB; have HO240 := n0_; have HO244 := n1_; have HO247 := n2_; have HO251 := n3_; have BK235 := n4_; have HB := n5_; have BK253 := n6_; have GW253 := n7_; have GE253 := n8_; have NB235_253 := n9_; have NB253_235 := n10_; clear n0_ n1_ n2_ n3_ n4_ n5_ n6_ n7_ n8_ n9_ n10_; clear hb hbox hg; obtain ⟨Ao32, co32, eo32⟩ := Kd.R_slice HO251.out; subst eo32; have hnb33 := NB253_235.out; have hnc33 := NB235_253.out; have hcz34_0 : w31.cell? ⟨gb253, 0, none⟩ = some (.slice none 0 0) := (blk_cell BK253.out 0).trans rfl; have hcz34_1 : w31.cell? ⟨gb253, 1, none⟩ = some (.int .i64 0) := (blk_cell BK253.out 1).trans rfl; have hfz34_0 := blk_frozen BK253.out 0; have hfz34_1 := blk_frozen BK253.out 1) | ((with_reducible refine gate_callee (f := 15) rfl ?_); refine goesL_ (some 38) rfl rfl Try.func15 (by kernel_rfl) rfl #[.slice A1 l1.length c1] rfl (by (try simp only [List.map_toArray, List.map_cons, List.map_nil]); first | done | rfl | (simp only [List.length_drop, List.length_take]; rfl)) ?_; (with_reducible refine (laws_toNoteS.calls k _ _ l1 t254 _ ?side1 ?side2 A17.out).mono ?_); (case side1 => exact Kd.C_below HR1.out (by repeat (first | (with_reducible first | exact HB.out | apply below_alloc | apply pw_below_drewN | apply below_drew1 | refine below_set ?_ GE235.out | refine below_set ?_ GE253.out) | exact HB.out))); (case side2 => exact HC1.out); rintro e w35 ⟨v255, rfl, ho0, hb⟩; refine ⟨_, rfl, ?_⟩; have n0_ := Aside0.mk (Kd.R_below (by (with_reducible repeat (first | apply Kd.R_alloc | apply Kd.R_drewN | apply Kd.R_drew)); exact (Kd.R_mono (Kd.R_far (p := ⟨gb253, 1, none⟩) (Kd.R_far (p := ⟨gb253, 0, none⟩) (Kd.R_types HO240.out BK253.out (by decide)) (fun _ hk => hk.2) (.slice Ao32 t249.length co32)) (fun _ hk => hk.2) (.int .i64 t252)) (fun _ h_ => h_.1))) hb); have n1_ := Aside0.mk (Kd.R_elder' (by (with_reducible repeat (first | apply Kd.R_alloc | apply Kd.R_drewN | apply Kd.R_drew)); exact (Kd.R_mono (Kd.R_far (p := ⟨gb253, 1, none⟩) (Kd.R_far (p := ⟨gb253, 0, none⟩) (Kd.R_types HO244.out BK253.out (by decide)) (fun _ hk => hk.2) (.slice Ao32 t249.length co32)) (fun _ hk => hk.2) (.int .i64 t252)) (fun _ h_ => h_.1))) (Kd.R_base ho0) hb); have n2_ := Aside0.mk (Kd.S_below (by (with_reducible repeat (first | apply Kd.S_alloc | apply Kd.S_drewN | apply Kd.S_drew)); exact (Kd.S_mono (Kd.S_far (p := ⟨gb253, 1, none⟩) (Kd.S_far (p := ⟨gb253, 0, none⟩) (Kd.S_types HO247.out BK253.out (by decide)) (fun _ hk => hk.2) (.slice Ao32 t249.length co32)) (fun _ hk => hk.2) (.int .i64 t252)) (fun _ h_ => h_.1))) hb); have n3_ := Aside0.mk (Kd.R_below (by (with_reducible repeat (first | apply Kd.R_alloc | apply Kd.R_drewN | apply Kd.R_drew)); exact (Kd.R_mono (Kd.R_far (p := ⟨gb253, 1, none⟩) (Kd.R_far (p := ⟨gb253, 0, none⟩) (Kd.R_types HO251.out BK253.out (by decide)) (fun _ hk => hk.2) (.slice Ao32 t249.length co32)) (fun _ hk => hk.2) (.int .i64 t252)) (fun _ h_ => h_.1))) hb); have n4_ := Aside0.mk (Kd.R_lower (Kd.R_new' ho0 (Kd.R_lt (by (with_reducible repeat (first | apply Kd.R_alloc | apply Kd.R_drewN | apply Kd.R_drew)); exact (Kd.R_mono (Kd.R_far (p := ⟨gb253, 1, none⟩) (Kd.R_far (p := ⟨gb253, 0, none⟩) (Kd.R_types HO244.out BK253.out (by decide)) (fun _ hk => hk.2) (.slice Ao32 t249.length co32)) (fun _ hk => hk.2) (.int .i64 t252)) (fun _ h_ => h_.1))))) (below_size (by repeat (first | (with_reducible first | exact HB.out | apply below_alloc | apply pw_below_drewN | apply below_drew1 | refine below_set ?_ GE235.out | refine below_set ?_ GE253.out) | exact HB.out)))); have n5_ := Aside0.mk (blk_below (g := gb235) (o := .cells #[.slice A0_0 l0_0.length c0_0, .int .i64 a0_1] 55 (0, 0)) (by (with_reducible repeat (first | refine blk_drewN ?_ _ | refine blk_drew ?_ | refine blk_alloc ?_ _)); refine blk_far ?_ NB235_253.out _; (with_reducible repeat (first | refine blk_drewN ?_ _ | refine blk_drew ?_ | refine blk_alloc ?_ _)); refine blk_far ?_ NB235_253.out _; (with_reducible repeat (first | refine blk_drewN ?_ _ | refine blk_drew ?_ | refine blk_alloc ?_ _)); exact BK235.out) hb); have n6_ := Aside0.mk (blk_below (g := gb253) (o := .cells #[.slice Ao32 t249.length co32, .int .i64 t252] 59 (0, 0)) (by (with_reducible repeat (first | refine blk_drewN ?_ _ | refine blk_drew ?_ | refine blk_alloc ?_ _)); refine blk_put (cs := #[.slice Ao32 t249.length co32, .int .i64 0]) ?_ 1 _ rfl; (with_reducible repeat (first | refine blk_drewN ?_ _ | refine blk_drew ?_ | refine blk_alloc ?_ _)); refine blk_put (cs := #[.slice none 0 0, .int .i64 0]) ?_ 0 _ rfl; (with_reducible repeat (first | refine blk_drewN ?_ _ | refine blk_drew ?_ | refine blk_alloc ?_ _)); exact BK253.out) hb); have n7_ := Aside0.mk (below_step (by repeat (first | (with_reducible first | exact HB.out | apply below_alloc | apply pw_below_drewN | apply below_drew1 | refine below_set ?_ GE235.out | refine below_set ?_ GE253.out) | exact HB.out)) hb); clear HO240 HO244 HO247 HO251 BK235 BK253 HB; have HO240 := n0_; have HO244 := n1_; have HO247 := n2_; have HO251 := n3_; have HO256 := n4_; have BK235 := n5_; have BK253 := n6_; have HB := n7_; clear n0_ n1_ n2_ n3_ n4_ n5_ n6_ n7_; (try clear hb); (try clear hb2); (try clear hk); (try clear hi); (try clear ho0); have hcz36_0 : w35.cell? ⟨gb253, 0, none⟩ = some (.slice Ao32 t249.length co32) := (blk_cell BK253.out 0).trans rfl; have hcz36_1 : w35.cell? ⟨gb253, 1, none⟩ = some (.int .i64 t252) := (blk_cell BK253.out 1).trans rfl; have hfz36_0 := blk_frozen BK253.out 0; have hfz36_1 := blk_frozen BK253.out 1; obtain ⟨Ao37, co37, eo37⟩ := Kd.R_slice HO256.out; subst eo37) | ((with_reducible refine gate_callee (f := 46) rfl ?_); refine goesL_ (some 42) rfl rfl Try.func46 (by kernel_rfl) rfl #[.agg #[.slice Ao32 t249.length co32, .int .i64 t252], .slice Ao37 t254.length co37] rfl (by (try simp only [List.map_toArray, List.map_cons, List.map_nil]); first | done | rfl | (simp only [List.length_drop, List.length_take]; rfl)) ?_; (with_reducible refine (impl_FastRepeats.calls k _ _ t249 t252 _ _ t254 t257 t260 _ ?side1 ?side2 ?side3 ?side4 A18.out).mono ?_); (case side1 => repeat (first | exact (Kd.R_reads' HO251.out).2.2 | (with_reducible refine Kd.C_alloc ?_ _) | (with_reducible refine Kd.C_drewN ?_ _) | (with_reducible refine Kd.C_drew ?_))); (case side2 => exact (Kd.R_reads' HO251.out).2.1); (case side3 => repeat (first | exact (Kd.R_reads' HO256.out).2.2 | (with_reducible refine Kd.C_alloc ?_ _) | (with_reducible refine Kd.C_drewN ?_ _) | (with_reducible refine Kd.C_drew ?_))); (case side4 => exact (Kd.R_reads' HO256.out).2.1); rintro e w38 ⟨v258, rfl, ho0, hb⟩; refine ⟨_, rfl, ?_⟩; obtain ⟨BB, kb1_, kb2_, h6s_, h10s_, h3s_⟩ := sep_three_ ho0 hb (by (with_reducible repeat (first | apply Kd.S_alloc | apply Kd.S_drewN | apply Kd.S_drew)); exact HO247.out) (by (with_reducible repeat (first | apply Kd.R_alloc | apply Kd.R_drewN | apply Kd.R_drew)); exact HO251.out) (by (with_reducible repeat (first | refine blk_drewN ?_ _ | refine blk_drew ?_ | refine blk_alloc ?_ _)); exact BK235.out) (by (with_reducible repeat (first | refine blk_drewN ?_ _ | refine blk_drew ?_ | refine blk_alloc ?_ _)); exact BK253.out); have HBB235 := Aside0.mk kb1_; have HBB253 := Aside0.mk kb2_; clear kb1_ kb2_; have n0_ := Aside0.mk (Kd.R_below (by (with_reducible repeat (first | apply Kd.R_alloc | apply Kd.R_drewN | apply Kd.R_drew)); exact HO240.out) hb); have n1_ := Aside0.mk (Kd.R_below (by (with_reducible repeat (first | apply Kd.R_alloc | apply Kd.R_drewN | apply Kd.R_drew)); exact HO244.out) hb); have n2_ := Aside0.mk (h6s_); have n3_ := Aside0.mk (h3s_); have n4_ := Aside0.mk (Kd.R_below (by (with_reducible repeat (first | apply Kd.R_alloc | apply Kd.R_drewN | apply Kd.R_drew)); exact HO256.out) hb); have n5_ := Aside0.mk (Kd.S_lower (Kd.S_new' (Kd.S_new' (Kd.S_new' h10s_ (Kd.R_lt (by (with_reducible repeat (first | apply Kd.R_alloc | apply Kd.R_drewN | apply Kd.R_drew)); exact HO240.out))) (Kd.S_lt (by (with_reducible repeat (first | apply Kd.S_alloc | apply Kd.S_drewN | apply Kd.S_drew)); exact HO247.out))) (Kd.R_lt (by (with_reducible repeat (first | apply Kd.R_alloc | apply Kd.R_drewN | apply Kd.R_drew)); exact HO251.out))) (below_size (by repeat (first | (with_reducible first | exact HB.out | apply below_alloc | apply pw_below_drewN | apply below_drew1 | refine below_set ?_ GE235.out | refine below_set ?_ GE253.out) | exact HB.out)))); have n6_ := Aside0.mk (blk_below (g := gb235) (o := .cells #[.slice A0_0 l0_0.length c0_0, .int .i64 a0_1] 55 (0, 0)) (by (with_reducible repeat (first | refine blk_drewN ?_ _ | refine blk_drew ?_ | refine blk_alloc ?_ _)); exact BK235.out) hb); have n7_ := Aside0.mk (blk_below (g := gb253) (o := .cells #[.slice Ao32 t249.length co32, .int .i64 t252] 59 (0, 0)) (by (with_reducible repeat (first | refine blk_drewN ?_ _ | refine blk_drew ?_ | refine blk_alloc ?_ _)); exact BK253.out) hb); have n8_ := Aside0.mk (below_step (by repeat (first | (with_reducible first | exact HB.out | apply below_alloc | apply pw_below_drewN | apply below_drew1 | refine below_set ?_ GE235.out | refine below_set ?_ GE253.out) | exact HB.out)) hb); clear h6s_ h10s_ h3s_; clear HO240 HO244 HO247 HO251 HO256 BK235 BK253 HB; have HO240 := n0_; have HO244 := n1_; have HO247 := n2_; have HO251 := n3_; have HO256 := n4_; have HO259 := n5_; have BK235 := n6_; have BK253 := n7_; have HB := n8_; clear n0_ n1_ n2_ n3_ n4_ n5_ n6_ n7_ n8_; (try clear hb); (try clear hb2); (try clear hk); (try clear hi); (try clear ho0)))
      (try simp only [Act.put, List.setIfInBounds_toArray, List.set_cons_zero, List.set_cons_succ])
      go_cut [53] (fun v53 wc => ∃ (kq : Nat) (x53_18 : Bool), v53 = .bool x53_18 ∧ Aside0 (laws_FnExactFastRepeats.j0 kq l1 t245 t248 t254 t257 t260 x53_18 l0_0 a0_1 t249 t252 = some r) ∧ Aside0 (kq ≤ k) ∧ Aside0 (Kd.S (Kd.slice 3 (Kd.int .i64)) 53 wc w.heap.size (fun k_ => (some k_ ≠ (v258 : Value).ownBlock ∧ some k_ ≠ ((.slice Ao32 t249.length co32) : Value).ownBlock) ∧ k_ < BB) v246 t245) ∧ Aside0 (Kd.R k92 92 wc w.heap.size (fun _ => True) (.slice Ao37 t254.length co37) t254) ∧ Aside0 (Kd.S (Kd.slice 3 (Kd.int .i64)) 53 wc w.heap.size (fun k_ => (some k_ ≠ (v246 : Value).ownBlock ∧ some k_ ≠ ((.slice Ao32 t249.length co32) : Value).ownBlock) ∧ BB ≤ k_) v258 t257) ∧ Aside0 (Kd.R (Kd.int .i64) 3 wc w.heap.size (fun k_ => k_ < BB) (.slice Ao32 t249.length co32) t249) ∧ Aside0 (wc.heap[gb235]? = some (.cells #[(.slice A0_0 l0_0.length c0_0), .int .i64 a0_1] 55 (0, 0))) ∧ Aside0 (wc.heap[gb253]? = some (.cells #[(.slice Ao32 t249.length co32), .int .i64 t252] 59 (0, 0))) ∧ Aside0 (Below w.heap.size w wc))
      case first =>
        have H := HC19.out
        clear HC19
        replace H := Option.bind_eq_some_iff.mp H
        obtain ⟨t261, A390, H⟩ := H
        replace H : (if t261 = true then (laws_FnExactFastRepeats.j0 k l1 t245 t248 t254 t257 t260 (t260 != t248) l0_0 a0_1 t249 t252) else (laws_FnExactFastRepeats.j0 k l1 t245 t248 t254 t257 t260 true l0_0 a0_1 t249 t252)) = some r := H
        have A39 := Aside0.mk A390
        clear A390
        by_cases c40 : t261 = true
        · subst c40
          have H1 : (laws_FnExactFastRepeats.j0 k l1 t245 t248 t254 t257 t260 (t260 != t248) l0_0 a0_1 t249 t252) = some r := by rw [if_pos rfl] at H; exact H
          clear H
          have H := H1
          clear H1
          have H' := Aside0.mk H
          clear H
          obtain ⟨Ao41, co41, eo41⟩ := Kd.S_slice HO259.out
          subst eo41
          obtain ⟨Ao42, co42, eo42⟩ := Kd.S_slice HO247.out
          subst eo42
          go_wp2_with (first | ((with_reducible refine gate_callee (f := 47) rfl ?_); refine goesL_ (some 47) rfl rfl Try.func47 (by kernel_rfl) rfl #[.slice Ao41 t257.length co41, .slice Ao42 t245.length co42] rfl (by (try simp only [List.map_toArray, List.map_cons, List.map_nil]); first | done | rfl | (simp only [List.length_drop, List.length_take]; rfl)) ?_; (with_reducible refine (laws_eqIntSS.calls k _ _ t257 _ _ t245 true _ ?side1 ?side2 ?side3 ?side4 A39.out).mono ?_); (case side1 => repeat (first | exact (Kd.S_reads' HO259.out).2.2 | (with_reducible refine Kd.C_alloc ?_ _) | (with_reducible refine Kd.C_drewN ?_ _) | (with_reducible refine Kd.C_drew ?_))); (case side2 => exact (Kd.S_reads' HO259.out).2.1); (case side3 => repeat (first | exact (Kd.S_reads' HO247.out).2.2 | (with_reducible refine Kd.C_alloc ?_ _) | (with_reducible refine Kd.C_drewN ?_ _) | (with_reducible refine Kd.C_drew ?_))); (case side4 => exact (Kd.S_reads' HO247.out).2.1); rintro e w' ⟨rfl, ⟨nd, rfl⟩⟩; refine ⟨_, rfl, ?_⟩))
          go_meet
          case rel => exact ⟨_, ((t260 != t248)), (by first | rfl | (simp; done) | (simp [*]; done)), H', ⟨by first | omega | exact Nat.le_refl _⟩, ⟨by (with_reducible repeat (first | apply Kd.S_alloc | apply Kd.S_drewN | apply Kd.S_drew)); exact Kd.S_mono HO247.out (fun _ hk => by (repeat' refine And.intro ?_ ?_) <;> first | exact hk | exact hk.2 | exact hk.2.1 | exact hk.2.2.1 | exact hk.2.2.2 | exact hk.1 | exact hk.1.2 | exact hk.1.2.1 | exact hk.1.2.2.1 | exact hk.1.2.2.2 | exact hk.1.1 | exact hk.1.1.2 | exact hk.1.1.2.1 | exact hk.1.1.2.2.1 | exact hk.1.1.2.2.2 | exact hk.1.1.1 | exact hk.1.1.1.2 | exact hk.1.1.1.2.1 | exact hk.1.1.1.2.2.1 | exact hk.1.1.1.2.2.2 | exact hk.1.1.1.1)⟩, ⟨by (with_reducible repeat (first | apply Kd.R_alloc | apply Kd.R_drewN | apply Kd.R_drew)); exact Kd.R_mono HO256.out (fun _ hk => trivial)⟩, ⟨by (with_reducible repeat (first | apply Kd.S_alloc | apply Kd.S_drewN | apply Kd.S_drew)); exact Kd.S_mono HO259.out (fun _ hk => by (repeat' refine And.intro ?_ ?_) <;> first | exact hk | exact hk.2 | exact hk.2.1 | exact hk.2.2.1 | exact hk.2.2.2 | exact hk.1 | exact hk.1.2 | exact hk.1.2.1 | exact hk.1.2.2.1 | exact hk.1.2.2.2 | exact hk.1.1 | exact hk.1.1.2 | exact hk.1.1.2.1 | exact hk.1.1.2.2.1 | exact hk.1.1.2.2.2 | exact hk.1.1.1 | exact hk.1.1.1.2 | exact hk.1.1.1.2.1 | exact hk.1.1.1.2.2.1 | exact hk.1.1.1.2.2.2 | exact hk.1.1.1.1)⟩, ⟨by (with_reducible repeat (first | apply Kd.R_alloc | apply Kd.R_drewN | apply Kd.R_drew)); exact Kd.R_mono HO251.out (fun _ hk => by (repeat' refine And.intro ?_ ?_) <;> first | exact hk | exact hk.2 | exact hk.2.1 | exact hk.2.2.1 | exact hk.2.2.2 | exact hk.1 | exact hk.1.2 | exact hk.1.2.1 | exact hk.1.2.2.1 | exact hk.1.2.2.2 | exact hk.1.1 | exact hk.1.1.2 | exact hk.1.1.2.1 | exact hk.1.1.2.2.1 | exact hk.1.1.2.2.2 | exact hk.1.1.1 | exact hk.1.1.1.2 | exact hk.1.1.1.2.1 | exact hk.1.1.1.2.2.1 | exact hk.1.1.1.2.2.2 | exact hk.1.1.1.1)⟩, ⟨by (with_reducible repeat (first | refine blk_drewN ?_ _ | refine blk_drew ?_ | refine blk_alloc ?_ _)); exact BK235.out⟩, ⟨by (with_reducible repeat (first | refine blk_drewN ?_ _ | refine blk_drew ?_ | refine blk_alloc ?_ _)); exact BK253.out⟩, ⟨by repeat (first | (with_reducible first | exact HB.out | apply below_alloc | apply pw_below_drewN | apply below_drew1 | refine below_set ?_ GE235.out | refine below_set ?_ GE253.out) | exact HB.out)⟩⟩
        · replace c40 := Bool.eq_false_iff.mpr c40
          subst c40
          have H1 : (laws_FnExactFastRepeats.j0 k l1 t245 t248 t254 t257 t260 true l0_0 a0_1 t249 t252) = some r := by rw [if_neg (show ¬ (false = true) by decide)] at H; exact H
          clear H
          have H := H1
          clear H1
          have H' := Aside0.mk H
          clear H
          obtain ⟨Ao43, co43, eo43⟩ := Kd.S_slice HO259.out
          subst eo43
          obtain ⟨Ao44, co44, eo44⟩ := Kd.S_slice HO247.out
          subst eo44
          go_wp2_with (first | ((with_reducible refine gate_callee (f := 47) rfl ?_); refine goesL_ (some 47) rfl rfl Try.func47 (by kernel_rfl) rfl #[.slice Ao43 t257.length co43, .slice Ao44 t245.length co44] rfl (by (try simp only [List.map_toArray, List.map_cons, List.map_nil]); first | done | rfl | (simp only [List.length_drop, List.length_take]; rfl)) ?_; (with_reducible refine (laws_eqIntSS.calls k _ _ t257 _ _ t245 false _ ?side1 ?side2 ?side3 ?side4 A39.out).mono ?_); (case side1 => repeat (first | exact (Kd.S_reads' HO259.out).2.2 | (with_reducible refine Kd.C_alloc ?_ _) | (with_reducible refine Kd.C_drewN ?_ _) | (with_reducible refine Kd.C_drew ?_))); (case side2 => exact (Kd.S_reads' HO259.out).2.1); (case side3 => repeat (first | exact (Kd.S_reads' HO247.out).2.2 | (with_reducible refine Kd.C_alloc ?_ _) | (with_reducible refine Kd.C_drewN ?_ _) | (with_reducible refine Kd.C_drew ?_))); (case side4 => exact (Kd.S_reads' HO247.out).2.1); rintro e w' ⟨rfl, ⟨nd, rfl⟩⟩; refine ⟨_, rfl, ?_⟩))
          go_meet
          case rel => exact ⟨_, (true), (by first | rfl | (simp; done) | (simp [*]; done)), H', ⟨by first | omega | exact Nat.le_refl _⟩, ⟨by (with_reducible repeat (first | apply Kd.S_alloc | apply Kd.S_drewN | apply Kd.S_drew)); exact Kd.S_mono HO247.out (fun _ hk => by (repeat' refine And.intro ?_ ?_) <;> first | exact hk | exact hk.2 | exact hk.2.1 | exact hk.2.2.1 | exact hk.2.2.2 | exact hk.1 | exact hk.1.2 | exact hk.1.2.1 | exact hk.1.2.2.1 | exact hk.1.2.2.2 | exact hk.1.1 | exact hk.1.1.2 | exact hk.1.1.2.1 | exact hk.1.1.2.2.1 | exact hk.1.1.2.2.2 | exact hk.1.1.1 | exact hk.1.1.1.2 | exact hk.1.1.1.2.1 | exact hk.1.1.1.2.2.1 | exact hk.1.1.1.2.2.2 | exact hk.1.1.1.1)⟩, ⟨by (with_reducible repeat (first | apply Kd.R_alloc | apply Kd.R_drewN | apply Kd.R_drew)); exact Kd.R_mono HO256.out (fun _ hk => trivial)⟩, ⟨by (with_reducible repeat (first | apply Kd.S_alloc | apply Kd.S_drewN | apply Kd.S_drew)); exact Kd.S_mono HO259.out (fun _ hk => by (repeat' refine And.intro ?_ ?_) <;> first | exact hk | exact hk.2 | exact hk.2.1 | exact hk.2.2.1 | exact hk.2.2.2 | exact hk.1 | exact hk.1.2 | exact hk.1.2.1 | exact hk.1.2.2.1 | exact hk.1.2.2.2 | exact hk.1.1 | exact hk.1.1.2 | exact hk.1.1.2.1 | exact hk.1.1.2.2.1 | exact hk.1.1.2.2.2 | exact hk.1.1.1 | exact hk.1.1.1.2 | exact hk.1.1.1.2.1 | exact hk.1.1.1.2.2.1 | exact hk.1.1.1.2.2.2 | exact hk.1.1.1.1)⟩, ⟨by (with_reducible repeat (first | apply Kd.R_alloc | apply Kd.R_drewN | apply Kd.R_drew)); exact Kd.R_mono HO251.out (fun _ hk => by (repeat' refine And.intro ?_ ?_) <;> first | exact hk | exact hk.2 | exact hk.2.1 | exact hk.2.2.1 | exact hk.2.2.2 | exact hk.1 | exact hk.1.2 | exact hk.1.2.1 | exact hk.1.2.2.1 | exact hk.1.2.2.2 | exact hk.1.1 | exact hk.1.1.2 | exact hk.1.1.2.1 | exact hk.1.1.2.2.1 | exact hk.1.1.2.2.2 | exact hk.1.1.1 | exact hk.1.1.1.2 | exact hk.1.1.1.2.1 | exact hk.1.1.1.2.2.1 | exact hk.1.1.1.2.2.2 | exact hk.1.1.1.1)⟩, ⟨by (with_reducible repeat (first | refine blk_drewN ?_ _ | refine blk_drew ?_ | refine blk_alloc ?_ _)); exact BK235.out⟩, ⟨by (with_reducible repeat (first | refine blk_drewN ?_ _ | refine blk_drew ?_ | refine blk_alloc ?_ _)); exact BK253.out⟩, ⟨by repeat (first | (with_reducible first | exact HB.out | apply below_alloc | apply pw_below_drewN | apply below_drew1 | refine below_set ?_ GE235.out | refine below_set ?_ GE253.out) | exact HB.out)⟩⟩
      case rest =>
        clear HC19
        try clear c1
        try clear p2
        try clear c3
        try clear c4
        try clear c4b0
        try clear c9
        try clear c9b0
        try clear c13
        try clear c15
        try clear c33
        try clear c35
        try clear c37
        try clear c40
        try clear hcz11_0
        try clear hcz11_1
        try clear hcz21_0
        try clear hcz21_1
        try clear hcz23_0
        try clear hcz23_1
        try clear hcz29_0
        try clear hcz29_1
        try clear hcz34_0
        try clear hcz34_1
        try clear hcz36_0
        try clear hcz36_1
        try clear hcz6_0
        try clear hcz6_1
        try clear hfz11_0
        try clear hfz11_1
        try clear hfz21_0
        try clear hfz21_1
        try clear hfz23_0
        try clear hfz23_1
        try clear hfz29_0
        try clear hfz29_1
        try clear hfz34_0
        try clear hfz34_1
        try clear hfz36_0
        try clear hfz36_1
        try clear hfz6_0
        try clear hfz6_1
        obtain ⟨kq, x53_18, rfl, HA, HJ18, HO_6, HO_9, HO_10, HO_254000, BK235, BK253, HB⟩ := hcut
        cases kq with
        | zero => exact absurd HA.out (by simp [laws_FnExactFastRepeats.j0])
        | succ kj18 =>
          have H := HA.out
          clear HA
          simp only [laws_FnExactFastRepeats.j0] at H
          by_cases c45 : x53_18 = true
          · subst c45
            have H1 : (some false) = some r := by rw [if_pos rfl] at H; exact H
            clear H
            have H := H1
            clear H1
            obtain rfl := Option.some.inj H
            go_wp2
            go_ret
            exact ⟨by first | rfl | (simp [errW_none, errW_some] <;> rfl) | (simp [*, errW_none, errW_some] <;> rfl), by repeat (first | (with_reducible first | exact HB.out | apply below_alloc | apply pw_below_drewN | apply below_drew1 | refine below_set ?_ GE235.out | refine below_set ?_ GE253.out) | exact HB.out)⟩
          · replace c45 := Bool.eq_false_iff.mpr c45
            subst c45
            have H1 : ((laws_toInstrument.f kj18 l0_0 a0_1).bind fun bt262 => ((laws_eqInstrument.f kj18 t249 t252 bt262.1 bt262.2).bind fun t266 => (if t266 = true then ((laws_toNoteS.f kj18 l1).bind fun t267 => ((laws_eqNoteS.f kj18 t254 t267).bind fun t270 => (if t270 = true then ((laws_markInstrument.f kj18 t249 t252 1).bind fun bt271 => ((laws_markNoteS.f kj18 t254 bt271.1).bind fun bt273 => (if bt273.1 < 0 then (laws_FnExactFastRepeats.j1 kj18 l1 t245 t248 t257 true l0_0 a0_1) else ((laws_eqIntSS.f kj18 t257 t245).bind fun t275 => (if t275 = true then (laws_FnExactFastRepeats.j1 kj18 l1 t245 t248 t257 (t260 != t248) l0_0 a0_1) else (laws_FnExactFastRepeats.j1 kj18 l1 t245 t248 t257 true l0_0 a0_1)))))) else (some false)))) else (some false)))) = some r := by rw [if_neg (show ¬ (false = true) by decide)] at H; exact H
            clear H
            have H := H1
            clear H1
            replace H := Option.bind_eq_some_iff.mp H
            obtain ⟨⟨t262, t265⟩, A460, H⟩ := H
            replace H : ((laws_eqInstrument.f kj18 t249 t252 t262 t265).bind fun t266 => (if t266 = true then ((laws_toNoteS.f kj18 l1).bind fun t267 => ((laws_eqNoteS.f kj18 t254 t267).bind fun t270 => (if t270 = true then ((laws_markInstrument.f kj18 t249 t252 1).bind fun bt271 => ((laws_markNoteS.f kj18 t254 bt271.1).bind fun bt273 => (if bt273.1 < 0 then (laws_FnExactFastRepeats.j1 kj18 l1 t245 t248 t257 true l0_0 a0_1) else ((laws_eqIntSS.f kj18 t257 t245).bind fun t275 => (if t275 = true then (laws_FnExactFastRepeats.j1 kj18 l1 t245 t248 t257 (t260 != t248) l0_0 a0_1) else (laws_FnExactFastRepeats.j1 kj18 l1 t245 t248 t257 true l0_0 a0_1)))))) else (some false)))) else (some false))) = some r := H
            have A46 := Aside0.mk A460
            clear A460
            replace H := Option.bind_eq_some_iff.mp H
            obtain ⟨t266, A470, H⟩ := H
            replace H : (if t266 = true then ((laws_toNoteS.f kj18 l1).bind fun t267 => ((laws_eqNoteS.f kj18 t254 t267).bind fun t270 => (if t270 = true then ((laws_markInstrument.f kj18 t249 t252 1).bind fun bt271 => ((laws_markNoteS.f kj18 t254 bt271.1).bind fun bt273 => (if bt273.1 < 0 then (laws_FnExactFastRepeats.j1 kj18 l1 t245 t248 t257 true l0_0 a0_1) else ((laws_eqIntSS.f kj18 t257 t245).bind fun t275 => (if t275 = true then (laws_FnExactFastRepeats.j1 kj18 l1 t245 t248 t257 (t260 != t248) l0_0 a0_1) else (laws_FnExactFastRepeats.j1 kj18 l1 t245 t248 t257 true l0_0 a0_1)))))) else (some false)))) else (some false)) = some r := H
            have A47 := Aside0.mk A470
            clear A470
            by_cases c48 : t266 = true
            · subst c48
              have H1 : ((laws_toNoteS.f kj18 l1).bind fun t267 => ((laws_eqNoteS.f kj18 t254 t267).bind fun t270 => (if t270 = true then ((laws_markInstrument.f kj18 t249 t252 1).bind fun bt271 => ((laws_markNoteS.f kj18 t254 bt271.1).bind fun bt273 => (if bt273.1 < 0 then (laws_FnExactFastRepeats.j1 kj18 l1 t245 t248 t257 true l0_0 a0_1) else ((laws_eqIntSS.f kj18 t257 t245).bind fun t275 => (if t275 = true then (laws_FnExactFastRepeats.j1 kj18 l1 t245 t248 t257 (t260 != t248) l0_0 a0_1) else (laws_FnExactFastRepeats.j1 kj18 l1 t245 t248 t257 true l0_0 a0_1)))))) else (some false)))) = some r := by rw [if_pos rfl] at H; exact H
              clear H
              have H := H1
              clear H1
              replace H := Option.bind_eq_some_iff.mp H
              obtain ⟨t267, A490, H⟩ := H
              replace H : ((laws_eqNoteS.f kj18 t254 t267).bind fun t270 => (if t270 = true then ((laws_markInstrument.f kj18 t249 t252 1).bind fun bt271 => ((laws_markNoteS.f kj18 t254 bt271.1).bind fun bt273 => (if bt273.1 < 0 then (laws_FnExactFastRepeats.j1 kj18 l1 t245 t248 t257 true l0_0 a0_1) else ((laws_eqIntSS.f kj18 t257 t245).bind fun t275 => (if t275 = true then (laws_FnExactFastRepeats.j1 kj18 l1 t245 t248 t257 (t260 != t248) l0_0 a0_1) else (laws_FnExactFastRepeats.j1 kj18 l1 t245 t248 t257 true l0_0 a0_1)))))) else (some false))) = some r := H
              have A49 := Aside0.mk A490
              clear A490
              replace H := Option.bind_eq_some_iff.mp H
              obtain ⟨t270, A500, H⟩ := H
              replace H : (if t270 = true then ((laws_markInstrument.f kj18 t249 t252 1).bind fun bt271 => ((laws_markNoteS.f kj18 t254 bt271.1).bind fun bt273 => (if bt273.1 < 0 then (laws_FnExactFastRepeats.j1 kj18 l1 t245 t248 t257 true l0_0 a0_1) else ((laws_eqIntSS.f kj18 t257 t245).bind fun t275 => (if t275 = true then (laws_FnExactFastRepeats.j1 kj18 l1 t245 t248 t257 (t260 != t248) l0_0 a0_1) else (laws_FnExactFastRepeats.j1 kj18 l1 t245 t248 t257 true l0_0 a0_1)))))) else (some false)) = some r := H
              have A50 := Aside0.mk A500
              clear A500
              by_cases c51 : t270 = true
              · subst c51
                have H1 : ((laws_markInstrument.f kj18 t249 t252 1).bind fun bt271 => ((laws_markNoteS.f kj18 t254 bt271.1).bind fun bt273 => (if bt273.1 < 0 then (laws_FnExactFastRepeats.j1 kj18 l1 t245 t248 t257 true l0_0 a0_1) else ((laws_eqIntSS.f kj18 t257 t245).bind fun t275 => (if t275 = true then (laws_FnExactFastRepeats.j1 kj18 l1 t245 t248 t257 (t260 != t248) l0_0 a0_1) else (laws_FnExactFastRepeats.j1 kj18 l1 t245 t248 t257 true l0_0 a0_1)))))) = some r := by rw [if_pos rfl] at H; exact H
                clear H
                have H := H1
                clear H1
                replace H := Option.bind_eq_some_iff.mp H
                obtain ⟨⟨t271, t272⟩, A520, H⟩ := H
                replace H : ((laws_markNoteS.f kj18 t254 t271).bind fun bt273 => (if bt273.1 < 0 then (laws_FnExactFastRepeats.j1 kj18 l1 t245 t248 t257 true l0_0 a0_1) else ((laws_eqIntSS.f kj18 t257 t245).bind fun t275 => (if t275 = true then (laws_FnExactFastRepeats.j1 kj18 l1 t245 t248 t257 (t260 != t248) l0_0 a0_1) else (laws_FnExactFastRepeats.j1 kj18 l1 t245 t248 t257 true l0_0 a0_1))))) = some r := H
                have A52 := Aside0.mk A520
                clear A520
                replace H := Option.bind_eq_some_iff.mp H
                obtain ⟨⟨t273, t274⟩, A530, H⟩ := H
                replace H : (if t273 < 0 then (laws_FnExactFastRepeats.j1 kj18 l1 t245 t248 t257 true l0_0 a0_1) else ((laws_eqIntSS.f kj18 t257 t245).bind fun t275 => (if t275 = true then (laws_FnExactFastRepeats.j1 kj18 l1 t245 t248 t257 (t260 != t248) l0_0 a0_1) else (laws_FnExactFastRepeats.j1 kj18 l1 t245 t248 t257 true l0_0 a0_1)))) = some r := H
                have A53 := Aside0.mk A530
                clear A530
                have HC54 := Aside0.mk H
                clear H
                try go_wp2
                have n0_ := Aside0.mk (Kd.S_drew HO_6.out)
                have n1_ := Aside0.mk (Kd.R_drew HO_9.out)
                have n2_ := Aside0.mk (Kd.S_drew HO_10.out)
                have n3_ := Aside0.mk (Kd.R_drew HO_254000.out)
                have n4_ := Aside0.mk (blk_drew BK235.out)
                have n5_ := Aside0.mk (blk_drew BK253.out)
                have n6_ := Aside0.mk (below_drew1 HB.out)
                clear HO_6
                clear HO_9
                clear HO_10
                clear HO_254000
                clear BK235
                clear BK253
                clear HB
                have HO_6 := n0_
                have HO_9 := n1_
                have HO_10 := n2_
                have HO_254000 := n3_
                have BK235 := n4_
                have BK253 := n5_
                have HB := n6_
                clear n0_ n1_ n2_ n3_ n4_ n5_ n6_
                refine start_ (n := 5) (S := fun w' => w'.cell? ⟨gb253, 0, none⟩ = some (.slice Ao32 t249.length co32) ∧ w'.cell? ⟨gb253, 1, none⟩ = some (.int .i64 t252) ∧ w'.cell? ⟨gb235, 0, none⟩ = some (.slice A0_0 l0_0.length c0_0) ∧ w'.cell? ⟨gb235, 1, none⟩ = some (.int .i64 a0_1)) (ds := []) #[false, false, false, false, false] (by kernel_rfl) rfl rfl ⟨(blk_cell BK253.out 0).trans rfl, (blk_cell BK253.out 1).trans rfl, (blk_cell BK235.out 0).trans rfl, (blk_cell BK235.out 1).trans rfl⟩ (fun hHeld => ?_)
                generalize wc.drew = w55 at HO_6 HO_9 HO_10 HO_254000 BK235 BK253 HB hHeld ⊢
                refine take_ (i := 0) (N := some 54) (v := ?_) (a' := ?_) #[true, false, false, false, false] rfl rfl (by kernel_rfl) (fun _ _ _ h => h) (Or.inl ⟨by rfl, ?_⟩) hHeld ?_ ?_
                rotate_left
                · rintro w' ⟨s0, s1, s2, s3⟩
                  go_simp
                  with_reducible rfl
                rotate_left
                · simp only [Act.put, List.setIfInBounds_toArray, List.set_cons_zero, List.set_cons_succ, i64_w, i32_w]
                  rfl
                refine take_ (i := 1) (N := some 55) (v := ?_) (a' := ?_) #[true, true, false, false, false] rfl rfl (by kernel_rfl) (fun _ _ _ h => h) (Or.inl ⟨by rfl, ?_⟩) hHeld ?_ ?_
                rotate_left
                · rintro w' ⟨s0, s1, s2, s3⟩
                  go_simp
                  with_reducible rfl
                rotate_left
                · simp only [Act.put, List.setIfInBounds_toArray, List.set_cons_zero, List.set_cons_succ, i64_w, i32_w]
                  rfl
                refine one_ (i := 2) (N := some 56) #[true, true, true, false, false] rfl rfl (by kernel_rfl) (by decide) (fun K hK => ?_)
                refine goes_ Try.func37 (by kernel_rfl) rfl #[.agg #[.slice A0_0 l0_0.length c0_0, .int .i64 a0_1]] (by rfl) rfl rfl (by (try simp only [List.map_toArray, List.map_cons, List.map_nil]); first | done | rfl | (simp only [List.length_drop, List.length_take]; rfl)) ?_
                with_reducible refine (laws_toInstrument.calls kj18 _ _ l0_0 a0_1 t262 t265 _ ?side1 ?side2 A46.out).mono ?_
                (case side1 => repeat (first | exact (Kd.C_below HR0_0.out HB.out) | (with_reducible refine Kd.C_alloc ?_ _) | (with_reducible refine Kd.C_drewN ?_ _) | (with_reducible refine Kd.C_drew ?_)))
                (case side2 => exact HC0_0.out)
                rintro e w56 ⟨v263, rfl, ho0, hb⟩
                refine ⟨_, rfl, ?_⟩
                have n0_ := Aside0.mk (Kd.S_elder' (by (with_reducible repeat (first | apply Kd.S_alloc | apply Kd.S_drewN | apply Kd.S_drew)); exact HO_6.out) (Kd.R_base ho0) hb)
                have n1_ := Aside0.mk (Kd.R_below (by (with_reducible repeat (first | apply Kd.R_alloc | apply Kd.R_drewN | apply Kd.R_drew)); exact HO_9.out) hb)
                have n2_ := Aside0.mk (Kd.S_elder' (by (with_reducible repeat (first | apply Kd.S_alloc | apply Kd.S_drewN | apply Kd.S_drew)); exact HO_10.out) (Kd.R_base ho0) hb)
                have n3_ := Aside0.mk (Kd.R_elder' (by (with_reducible repeat (first | apply Kd.R_alloc | apply Kd.R_drewN | apply Kd.R_drew)); exact HO_254000.out) (Kd.R_base ho0) hb)
                have n4_ := Aside0.mk (Kd.R_lower (Kd.R_new' ho0 (Kd.R_lt (by (with_reducible repeat (first | apply Kd.R_alloc | apply Kd.R_drewN | apply Kd.R_drew)); exact HO_254000.out))) (below_size (by repeat (first | (with_reducible first | exact HB.out | apply below_alloc | apply pw_below_drewN | apply below_drew1 | refine below_set ?_ GE235.out | refine below_set ?_ GE253.out) | exact HB.out))))
                have n5_ := Aside0.mk (blk_below (g := gb235) (o := .cells #[.slice A0_0 l0_0.length c0_0, .int .i64 a0_1] 55 (0, 0)) (by (with_reducible repeat (first | refine blk_drewN ?_ _ | refine blk_drew ?_ | refine blk_alloc ?_ _)); exact BK235.out) hb)
                have n6_ := Aside0.mk (blk_below (g := gb253) (o := .cells #[.slice Ao32 t249.length co32, .int .i64 t252] 59 (0, 0)) (by (with_reducible repeat (first | refine blk_drewN ?_ _ | refine blk_drew ?_ | refine blk_alloc ?_ _)); exact BK253.out) hb)
                have n7_ := Aside0.mk (below_step (by repeat (first | (with_reducible first | exact HB.out | apply below_alloc | apply pw_below_drewN | apply below_drew1 | refine below_set ?_ GE235.out | refine below_set ?_ GE253.out) | exact HB.out)) hb)
                clear HO_6
                clear HO_9
                clear HO_10
                clear HO_254000
                clear BK235
                clear BK253
                clear HB
                have HO_6 := n0_
                have HO_9 := n1_
                have HO_10 := n2_
                have HO_254000 := n3_
                have HO264 := n4_
                have BK235 := n5_
                have BK253 := n6_
                have HB := n7_
                clear n0_ n1_ n2_ n3_ n4_ n5_ n6_ n7_
                (try clear hb)
                (try clear hb2)
                (try clear hk)
                (try clear hi)
                (try clear ho0)
                obtain ⟨Ao57, co57, eo57⟩ := Kd.R_slice HO264.out
                (first | subst eo57 | (injection eo57 with f1_ f2_ f3_; have f4_ := f1_.symm; have f5_ := f3_.symm; clear f1_ f2_ f3_; subst f4_; subst f5_))
                refine hK.out _ _ ⟨(blk_cell BK253.out 0).trans rfl, (blk_cell BK253.out 1).trans rfl, (blk_cell BK235.out 0).trans rfl, (blk_cell BK235.out 1).trans rfl⟩ (fun hHeld => ?_)
                clear hK K
                refine norm_ (a' := ?_) ?_ ?_
                rotate_left
                · show Act.put _ (some 56) _ = _
                  simp only [Act.put, List.setIfInBounds_toArray, List.set_cons_zero, List.set_cons_succ, i64_w, i32_w]
                  rfl
                refine one_ (i := 3) (N := some 57) #[true, true, true, true, false] rfl rfl (by kernel_rfl) (by decide) (fun K hK => ?_)
                refine goes_ Try.func39 (by kernel_rfl) rfl #[.agg #[.slice Ao32 t249.length co32, .int .i64 t252], .agg #[.slice Ao57 t262.length co57, .int .i64 t265]] (by rfl) rfl rfl (by (try simp only [List.map_toArray, List.map_cons, List.map_nil]); first | done | rfl | (simp only [List.length_drop, List.length_take]; rfl)) ?_
                with_reducible refine (laws_eqInstrument.calls kj18 _ _ t249 t252 _ _ t262 t265 true _ ?side1 ?side2 ?side3 ?side4 A47.out).mono ?_
                (case side1 => repeat (first | exact (Kd.R_reads' HO_254000.out).2.2 | (with_reducible refine Kd.C_alloc ?_ _) | (with_reducible refine Kd.C_drewN ?_ _) | (with_reducible refine Kd.C_drew ?_)))
                (case side2 => exact (Kd.R_reads' HO_254000.out).2.1)
                (case side3 => repeat (first | exact (Kd.R_reads' HO264.out).2.2 | (with_reducible refine Kd.C_alloc ?_ _) | (with_reducible refine Kd.C_drewN ?_ _) | (with_reducible refine Kd.C_drew ?_)))
                (case side4 => exact (Kd.R_reads' HO264.out).2.1)
                rintro e w58 ⟨rfl, hb⟩
                refine ⟨_, rfl, ?_⟩
                have n0_ := Aside0.mk (Kd.S_below (by (with_reducible repeat (first | apply Kd.S_alloc | apply Kd.S_drewN | apply Kd.S_drew)); exact HO_6.out) hb)
                have n1_ := Aside0.mk (Kd.R_below (by (with_reducible repeat (first | apply Kd.R_alloc | apply Kd.R_drewN | apply Kd.R_drew)); exact HO_9.out) hb)
                have n2_ := Aside0.mk (Kd.S_below (by (with_reducible repeat (first | apply Kd.S_alloc | apply Kd.S_drewN | apply Kd.S_drew)); exact HO_10.out) hb)
                have n3_ := Aside0.mk (Kd.R_below (by (with_reducible repeat (first | apply Kd.R_alloc | apply Kd.R_drewN | apply Kd.R_drew)); exact HO_254000.out) hb)
                have n4_ := Aside0.mk (Kd.R_below (by (with_reducible repeat (first | apply Kd.R_alloc | apply Kd.R_drewN | apply Kd.R_drew)); exact HO264.out) hb)
                have n5_ := Aside0.mk (blk_below (g := gb235) (o := .cells #[.slice A0_0 l0_0.length c0_0, .int .i64 a0_1] 55 (0, 0)) (by (with_reducible repeat (first | refine blk_drewN ?_ _ | refine blk_drew ?_ | refine blk_alloc ?_ _)); exact BK235.out) hb)
                have n6_ := Aside0.mk (blk_below (g := gb253) (o := .cells #[.slice Ao32 t249.length co32, .int .i64 t252] 59 (0, 0)) (by (with_reducible repeat (first | refine blk_drewN ?_ _ | refine blk_drew ?_ | refine blk_alloc ?_ _)); exact BK253.out) hb)
                have n7_ := Aside0.mk (below_step (by repeat (first | (with_reducible first | exact HB.out | apply below_alloc | apply pw_below_drewN | apply below_drew1 | refine below_set ?_ GE235.out | refine below_set ?_ GE253.out) | exact HB.out)) hb)
                clear HO_6
                clear HO_9
                clear HO_10
                clear HO_254000
                clear HO264
                clear BK235
                clear BK253
                clear HB
                have HO_6 := n0_
                have HO_9 := n1_
                have HO_10 := n2_
                have HO_254000 := n3_
                have HO264 := n4_
                have BK235 := n5_
                have BK253 := n6_
                have HB := n7_
                clear n0_ n1_ n2_ n3_ n4_ n5_ n6_ n7_
                (try clear hb)
                (try clear hb2)
                (try clear hk)
                (try clear hi)
                refine hK.out _ _ ⟨(blk_cell BK253.out 0).trans rfl, (blk_cell BK253.out 1).trans rfl, (blk_cell BK235.out 0).trans rfl, (blk_cell BK235.out 1).trans rfl⟩ (fun hHeld => ?_)
                clear hK K
                refine norm_ (a' := ?_) ?_ ?_
                rotate_left
                · show Act.put _ (some 57) _ = _
                  simp only [Act.put, List.setIfInBounds_toArray, List.set_cons_zero, List.set_cons_succ, i64_w, i32_w]
                  rfl
                refine pure_ (i := 4) (N := some 58) (v := ?_) (a' := ?_) #[true, true, true, true, true] rfl rfl (by kernel_rfl) (fun _ _ _ h => h) (Or.inl ⟨by rfl, ?_⟩) ?_ ?_
                rotate_left
                · intro w'
                  go_simp
                  with_reducible rfl
                rotate_left
                · simp only [Act.put, List.setIfInBounds_toArray, List.set_cons_zero, List.set_cons_succ, i64_w, i32_w]
                  rfl
                refine done_ (by kernel_rfl) ?_
                go_upto_region 21 with (first | ((with_reducible refine gate_callee (f := 15) rfl ?_); refine goesL_ (some 61) rfl rfl Try.func15 (by kernel_rfl) rfl #[.slice A1 l1.length c1] rfl (by (try simp only [List.map_toArray, List.map_cons, List.map_nil]); first | done | rfl | (simp only [List.length_drop, List.length_take]; rfl)) ?_; (with_reducible refine (laws_toNoteS.calls kj18 _ _ l1 t267 _ ?side1 ?side2 A49.out).mono ?_); (case side1 => repeat (first | exact (Kd.C_below HR1.out HB.out) | (with_reducible refine Kd.C_alloc ?_ _) | (with_reducible refine Kd.C_drewN ?_ _) | (with_reducible refine Kd.C_drew ?_))); (case side2 => exact HC1.out); rintro e w59 ⟨v268, rfl, ho0, hb⟩; refine ⟨_, rfl, ?_⟩; have n0_ := Aside0.mk (Kd.S_below (by (with_reducible repeat (first | apply Kd.S_alloc | apply Kd.S_drewN | apply Kd.S_drew)); exact HO_6.out) hb); have n1_ := Aside0.mk (Kd.R_elder' (by (with_reducible repeat (first | apply Kd.R_alloc | apply Kd.R_drewN | apply Kd.R_drew)); exact HO_9.out) (Kd.R_base ho0) hb); have n2_ := Aside0.mk (Kd.S_below (by (with_reducible repeat (first | apply Kd.S_alloc | apply Kd.S_drewN | apply Kd.S_drew)); exact HO_10.out) hb); have n3_ := Aside0.mk (Kd.R_below (by (with_reducible repeat (first | apply Kd.R_alloc | apply Kd.R_drewN | apply Kd.R_drew)); exact HO_254000.out) hb); have n4_ := Aside0.mk (Kd.R_below (by (with_reducible repeat (first | apply Kd.R_alloc | apply Kd.R_drewN | apply Kd.R_drew)); exact HO264.out) hb); have n5_ := Aside0.mk (Kd.R_lower (Kd.R_new' ho0 (Kd.R_lt (by (with_reducible repeat (first | apply Kd.R_alloc | apply Kd.R_drewN | apply Kd.R_drew)); exact HO_9.out))) (below_size (by repeat (first | (with_reducible first | exact HB.out | apply below_alloc | apply pw_below_drewN | apply below_drew1 | refine below_set ?_ GE235.out | refine below_set ?_ GE253.out) | exact HB.out)))); have n6_ := Aside0.mk (blk_below (g := gb235) (o := .cells #[.slice A0_0 l0_0.length c0_0, .int .i64 a0_1] 55 (0, 0)) (by (with_reducible repeat (first | refine blk_drewN ?_ _ | refine blk_drew ?_ | refine blk_alloc ?_ _)); exact BK235.out) hb); have n7_ := Aside0.mk (blk_below (g := gb253) (o := .cells #[.slice Ao32 t249.length co32, .int .i64 t252] 59 (0, 0)) (by (with_reducible repeat (first | refine blk_drewN ?_ _ | refine blk_drew ?_ | refine blk_alloc ?_ _)); exact BK253.out) hb); have n8_ := Aside0.mk (below_step (by repeat (first | (with_reducible first | exact HB.out | apply below_alloc | apply pw_below_drewN | apply below_drew1 | refine below_set ?_ GE235.out | refine below_set ?_ GE253.out) | exact HB.out)) hb); clear HO_6 HO_9 HO_10 HO_254000 HO264 BK235 BK253 HB; have HO_6 := n0_; have HO_9 := n1_; have HO_10 := n2_; have HO_254000 := n3_; have HO264 := n4_; have HO269 := n5_; have BK235 := n6_; have BK253 := n7_; have HB := n8_; clear n0_ n1_ n2_ n3_ n4_ n5_ n6_ n7_ n8_; (try clear hb); (try clear hb2); (try clear hk); (try clear hi); (try clear ho0); obtain ⟨Ao60, co60, eo60⟩ := Kd.R_slice HO269.out; subst eo60) | ((with_reducible refine gate_callee (f := 17) rfl ?_); refine goesL_ (some 62) rfl rfl Try.func17 (by kernel_rfl) rfl #[.slice Ao37 t254.length co37, .slice Ao60 t267.length co60] rfl (by (try simp only [List.map_toArray, List.map_cons, List.map_nil]); first | done | rfl | (simp only [List.length_drop, List.length_take]; rfl)) ?_; (with_reducible refine (laws_eqNoteS.calls kj18 _ _ t254 _ _ t267 true _ ?side1 ?side2 ?side3 ?side4 A50.out).mono ?_); (case side1 => repeat (first | exact (Kd.R_reads' HO_9.out).2.2 | (with_reducible refine Kd.C_alloc ?_ _) | (with_reducible refine Kd.C_drewN ?_ _) | (with_reducible refine Kd.C_drew ?_))); (case side2 => exact (Kd.R_reads' HO_9.out).2.1); (case side3 => repeat (first | exact (Kd.R_reads' HO269.out).2.2 | (with_reducible refine Kd.C_alloc ?_ _) | (with_reducible refine Kd.C_drewN ?_ _) | (with_reducible refine Kd.C_drew ?_))); (case side4 => exact (Kd.R_reads' HO269.out).2.1); rintro e w61 ⟨rfl, hb⟩; refine ⟨_, rfl, ?_⟩; have n0_ := Aside0.mk (Kd.S_below (by (with_reducible repeat (first | apply Kd.S_alloc | apply Kd.S_drewN | apply Kd.S_drew)); exact HO_6.out) hb); have n1_ := Aside0.mk (Kd.R_below (by (with_reducible repeat (first | apply Kd.R_alloc | apply Kd.R_drewN | apply Kd.R_drew)); exact HO_9.out) hb); have n2_ := Aside0.mk (Kd.S_below (by (with_reducible repeat (first | apply Kd.S_alloc | apply Kd.S_drewN | apply Kd.S_drew)); exact HO_10.out) hb); have n3_ := Aside0.mk (Kd.R_below (by (with_reducible repeat (first | apply Kd.R_alloc | apply Kd.R_drewN | apply Kd.R_drew)); exact HO_254000.out) hb); have n4_ := Aside0.mk (Kd.R_below (by (with_reducible repeat (first | apply Kd.R_alloc | apply Kd.R_drewN | apply Kd.R_drew)); exact HO264.out) hb); have n5_ := Aside0.mk (Kd.R_below (by (with_reducible repeat (first | apply Kd.R_alloc | apply Kd.R_drewN | apply Kd.R_drew)); exact HO269.out) hb); have n6_ := Aside0.mk (blk_below (g := gb235) (o := .cells #[.slice A0_0 l0_0.length c0_0, .int .i64 a0_1] 55 (0, 0)) (by (with_reducible repeat (first | refine blk_drewN ?_ _ | refine blk_drew ?_ | refine blk_alloc ?_ _)); exact BK235.out) hb); have n7_ := Aside0.mk (blk_below (g := gb253) (o := .cells #[.slice Ao32 t249.length co32, .int .i64 t252] 59 (0, 0)) (by (with_reducible repeat (first | refine blk_drewN ?_ _ | refine blk_drew ?_ | refine blk_alloc ?_ _)); exact BK253.out) hb); have n8_ := Aside0.mk (below_step (by repeat (first | (with_reducible first | exact HB.out | apply below_alloc | apply pw_below_drewN | apply below_drew1 | refine below_set ?_ GE235.out | refine below_set ?_ GE253.out) | exact HB.out)) hb); clear HO_6 HO_9 HO_10 HO_254000 HO264 HO269 BK235 BK253 HB; have HO_6 := n0_; have HO_9 := n1_; have HO_10 := n2_; have HO_254000 := n3_; have HO264 := n4_; have HO269 := n5_; have BK235 := n6_; have BK253 := n7_; have HB := n8_; clear n0_ n1_ n2_ n3_ n4_ n5_ n6_ n7_ n8_; (try clear hb); (try clear hb2); (try clear hk); (try clear hi); have hnb62 := NB253_235.out; have hnc62 := NB235_253.out; have hcz63_0 : w61.cell? ⟨gb253, 0, none⟩ = some (.slice Ao32 t249.length co32) := (blk_cell BK253.out 0).trans rfl; have hcz63_1 : w61.cell? ⟨gb253, 1, none⟩ = some (.int .i64 t252) := (blk_cell BK253.out 1).trans rfl; have hfz63_0 := blk_frozen BK253.out 0; have hfz63_1 := blk_frozen BK253.out 1) | ((with_reducible refine gate_callee (f := 42) rfl ?_); refine goesL_ (some 66) rfl rfl Try.func42 (by kernel_rfl) rfl #[.agg #[.slice Ao32 t249.length co32, .int .i64 t252], .int .i64 1] rfl (by (try simp only [List.map_toArray, List.map_cons, List.map_nil]); first | done | rfl | (simp only [List.length_drop, List.length_take]; rfl)) ?_; (with_reducible refine (laws_markInstrument.calls kj18 (fun k_ => some k_ = (.slice Ao32 t249.length co32 : Value).ownBlock) (.slice Ao32 t249.length co32) t249 t252 1 t271 t272 w _ ?side1 ?side2 A52.out).mono ?_); (case side1 => repeat (first | (with_reducible first | exact HB.out | apply below_alloc | apply pw_below_drewN | apply below_drew1 | refine below_set ?_ GE235.out | refine below_set ?_ GE253.out) | exact HB.out)); (case side2 => exact Kd.R_tight rfl HO_254000.out); rintro e w64 ⟨rfl, hy0, hb, hkp⟩; refine ⟨_, rfl, ?_⟩; have n0_ := Aside0.mk (Kd.S_mono (ok' := fun k_ => some k_ ≠ (v258 : Value).ownBlock ∧ some k_ ≠ (.slice Ao32 t249.length co32 : Value).ownBlock ∧ some k_ ≠ (.slice Ao57 t262.length co57 : Value).ownBlock ∧ k_ < BB) (Kd.S_keptB (HO_6.out) hkp (fun k_ hk_ hs_ => by first | exact (hk_.1.2) hs_ | exact (hk_.1.1.2) hs_ | exact (hk_.1.1.1) hs_ | exact (hk_.1.1) hs_ | exact (hk_.1.2) hs_ | exact (hk_.2) hs_)) (fun k_ hk_ => by (repeat' refine And.intro ?_ ?_) <;> first | exact hk_ | exact hk_.2 | exact hk_.2.1 | exact hk_.2.2.1 | exact hk_.2.2.2 | exact hk_.1 | exact hk_.1.2 | exact hk_.1.2.1 | exact hk_.1.2.2.1 | exact hk_.1.2.2.2 | exact hk_.1.1 | exact hk_.1.1.2 | exact hk_.1.1.2.1 | exact hk_.1.1.2.2.1 | exact hk_.1.1.2.2.2 | exact hk_.1.1.1 | exact hk_.1.1.1.2 | exact hk_.1.1.1.2.1 | exact hk_.1.1.1.2.2.1 | exact hk_.1.1.1.2.2.2 | exact hk_.1.1.1.1)); have n1_ := Aside0.mk (Kd.R_mono (ok' := fun k_ => some k_ ≠ (.slice Ao60 t267.length co60 : Value).ownBlock) (Kd.R_keptB ((Kd.R_apart' HO_9.out (Kd.R_typed HO_254000.out) (by decide))) hkp (fun k_ hk_ hs_ => (hk_.2) hs_)) (fun k_ hk_ => hk_.1.1.2)); have n2_ := Aside0.mk (Kd.S_mono (ok' := fun k_ => some k_ ≠ (v246 : Value).ownBlock ∧ some k_ ≠ (.slice Ao32 t249.length co32 : Value).ownBlock ∧ some k_ ≠ (.slice Ao57 t262.length co57 : Value).ownBlock ∧ BB ≤ k_) (Kd.S_keptB (HO_10.out) hkp (fun k_ hk_ hs_ => by first | exact (hk_.1.2) hs_ | exact (hk_.1.1.2) hs_ | exact (hk_.1.1.1) hs_ | exact (hk_.1.1) hs_ | exact (hk_.1.2) hs_ | exact (hk_.2) hs_)) (fun k_ hk_ => by (repeat' refine And.intro ?_ ?_) <;> first | exact hk_ | exact hk_.2 | exact hk_.2.1 | exact hk_.2.2.1 | exact hk_.2.2.2 | exact hk_.1 | exact hk_.1.2 | exact hk_.1.2.1 | exact hk_.1.2.2.1 | exact hk_.1.2.2.2 | exact hk_.1.1 | exact hk_.1.1.2 | exact hk_.1.1.2.1 | exact hk_.1.1.2.2.1 | exact hk_.1.1.2.2.2 | exact hk_.1.1.1 | exact hk_.1.1.1.2 | exact hk_.1.1.1.2.1 | exact hk_.1.1.1.2.2.1 | exact hk_.1.1.1.2.2.2 | exact hk_.1.1.1.1)); have n3_ := Aside0.mk (Kd.R_reok rfl hy0 (fun k_ e_ => HO_254000.out.1 k_ e_)); have n4_ := Aside0.mk (blk_kept (by (with_reducible repeat (first | refine blk_drewN ?_ _ | refine blk_drew ?_ | refine blk_alloc ?_ _)); exact BK235.out) hkp (fun hs_ => (fun e_ => (Kd.R_ne HO_254000.out BK235.out (by decide)) e_) hs_)); have n5_ := Aside0.mk (blk_kept (by (with_reducible repeat (first | refine blk_drewN ?_ _ | refine blk_drew ?_ | refine blk_alloc ?_ _)); exact BK253.out) hkp (fun hs_ => (fun e_ => (Kd.R_ne HO_254000.out BK253.out (by decide)) e_) hs_)); have n6_ := Aside0.mk (Kd.R_mono (ok' := fun k_ => some k_ ≠ (.slice Ao32 t249.length co32 : Value).ownBlock) (Kd.R_keptB (HO264.out) hkp (fun k_ hk_ hs_ => (hk_.2) hs_)) (fun k_ hk_ => hk_.1.2)); have n7_ := Aside0.mk (Kd.R_mono (ok' := fun k_ => some k_ ≠ (.slice Ao37 t254.length co37 : Value).ownBlock) (Kd.R_keptB ((Kd.R_apart' HO269.out (Kd.R_typed HO_254000.out) (by decide))) hkp (fun k_ hk_ hs_ => (hk_.2) hs_)) (fun k_ hk_ => hk_.1.1.2)); have n8_ := Aside0.mk (hb); clear HO_6 HO_9 HO_10 HO_254000 BK235 BK253 HO264 HO269 HB; have HO_6 := n0_; have HO_9 := n1_; have HO_10 := n2_; have HO_254000 := n3_; have BK235 := n4_; have BK253 := n5_; have HO264 := n6_; have HO269 := n7_; have HB := n8_; clear n0_ n1_ n2_ n3_ n4_ n5_ n6_ n7_ n8_; (try clear hb); (try clear hkp); (try clear hy0)) | ((with_reducible refine gate_callee (f := 18) rfl ?_); refine goesL_ (some 69) rfl rfl Try.func18 (by kernel_rfl) rfl #[.slice Ao37 t254.length co37, .int .i64 t271] rfl (by (try simp only [List.map_toArray, List.map_cons, List.map_nil]); first | done | rfl | (simp only [List.length_drop, List.length_take]; rfl)) ?_; (with_reducible refine (laws_markNoteS.calls kj18 (fun k_ => some k_ = (.slice Ao37 t254.length co37 : Value).ownBlock) (.slice Ao37 t254.length co37) t254 t271 t273 t274 w _ ?side1 ?side2 A53.out).mono ?_); (case side1 => repeat (first | (with_reducible first | exact HB.out | apply below_alloc | apply pw_below_drewN | apply below_drew1 | refine below_set ?_ GE235.out | refine below_set ?_ GE253.out) | exact HB.out)); (case side2 => exact Kd.R_tight rfl HO_9.out); rintro e w65 ⟨rfl, hy0, hb, hkp⟩; refine ⟨_, rfl, ?_⟩; have n0_ := Aside0.mk (Kd.S_mono (ok' := fun k_ => some k_ ≠ (v258 : Value).ownBlock ∧ some k_ ≠ (.slice Ao32 t249.length co32 : Value).ownBlock ∧ some k_ ≠ (.slice Ao57 t262.length co57 : Value).ownBlock ∧ k_ < BB) (Kd.S_keptB ((Kd.S_apart' HO_6.out (Kd.R_typed HO_9.out) (by decide))) hkp (fun k_ hk_ hs_ => by first | exact (hk_.2) hs_ | exact (hk_.1.1.2) hs_ | exact (hk_.1.1.1) hs_ | exact (hk_.1.1) hs_ | exact (hk_.1.2) hs_ | exact (hk_.2) hs_)) (fun k_ hk_ => by (repeat' refine And.intro ?_ ?_) <;> first | exact hk_ | exact hk_.2 | exact hk_.2.1 | exact hk_.2.2.1 | exact hk_.2.2.2 | exact hk_.1 | exact hk_.1.2 | exact hk_.1.2.1 | exact hk_.1.2.2.1 | exact hk_.1.2.2.2 | exact hk_.1.1 | exact hk_.1.1.2 | exact hk_.1.1.2.1 | exact hk_.1.1.2.2.1 | exact hk_.1.1.2.2.2 | exact hk_.1.1.1 | exact hk_.1.1.1.2 | exact hk_.1.1.1.2.1 | exact hk_.1.1.1.2.2.1 | exact hk_.1.1.1.2.2.2 | exact hk_.1.1.1.1)); have n1_ := Aside0.mk (Kd.R_reok rfl hy0 (fun k_ e_ => HO_9.out.1 k_ e_)); have n2_ := Aside0.mk (Kd.S_mono (ok' := fun k_ => some k_ ≠ (v246 : Value).ownBlock ∧ some k_ ≠ (.slice Ao32 t249.length co32 : Value).ownBlock ∧ some k_ ≠ (.slice Ao57 t262.length co57 : Value).ownBlock ∧ BB ≤ k_) (Kd.S_keptB ((Kd.S_apart' HO_10.out (Kd.R_typed HO_9.out) (by decide))) hkp (fun k_ hk_ hs_ => by first | exact (hk_.2) hs_ | exact (hk_.1.1.2) hs_ | exact (hk_.1.1.1) hs_ | exact (hk_.1.1) hs_ | exact (hk_.1.2) hs_ | exact (hk_.2) hs_)) (fun k_ hk_ => by (repeat' refine And.intro ?_ ?_) <;> first | exact hk_ | exact hk_.2 | exact hk_.2.1 | exact hk_.2.2.1 | exact hk_.2.2.2 | exact hk_.1 | exact hk_.1.2 | exact hk_.1.2.1 | exact hk_.1.2.2.1 | exact hk_.1.2.2.2 | exact hk_.1.1 | exact hk_.1.1.2 | exact hk_.1.1.2.1 | exact hk_.1.1.2.2.1 | exact hk_.1.1.2.2.2 | exact hk_.1.1.1 | exact hk_.1.1.1.2 | exact hk_.1.1.1.2.1 | exact hk_.1.1.1.2.2.1 | exact hk_.1.1.1.2.2.2 | exact hk_.1.1.1.1)); have n3_ := Aside0.mk (Kd.R_mono (ok' := fun k_ => some k_ ≠ (.slice Ao57 t262.length co57 : Value).ownBlock ∧ k_ < BB) (Kd.R_keptB ((Kd.R_apart' HO_254000.out (Kd.R_typed HO_9.out) (by decide))) hkp (fun k_ hk_ hs_ => (hk_.2) hs_)) (fun k_ hk_ => by (repeat' refine And.intro ?_ ?_) <;> first | exact hk_ | exact hk_.2 | exact hk_.2.1 | exact hk_.2.2.1 | exact hk_.2.2.2 | exact hk_.1 | exact hk_.1.2 | exact hk_.1.2.1 | exact hk_.1.2.2.1 | exact hk_.1.2.2.2 | exact hk_.1.1 | exact hk_.1.1.2 | exact hk_.1.1.2.1 | exact hk_.1.1.2.2.1 | exact hk_.1.1.2.2.2 | exact hk_.1.1.1 | exact hk_.1.1.1.2 | exact hk_.1.1.1.2.1 | exact hk_.1.1.1.2.2.1 | exact hk_.1.1.1.2.2.2 | exact hk_.1.1.1.1)); have n4_ := Aside0.mk (blk_kept (by (with_reducible repeat (first | refine blk_drewN ?_ _ | refine blk_drew ?_ | refine blk_alloc ?_ _)); exact BK235.out) hkp (fun hs_ => (fun e_ => (Kd.R_ne HO_9.out BK235.out (by decide)) e_) hs_)); have n5_ := Aside0.mk (blk_kept (by (with_reducible repeat (first | refine blk_drewN ?_ _ | refine blk_drew ?_ | refine blk_alloc ?_ _)); exact BK253.out) hkp (fun hs_ => (fun e_ => (Kd.R_ne HO_9.out BK253.out (by decide)) e_) hs_)); have n6_ := Aside0.mk (Kd.R_mono (ok' := fun k_ => some k_ ≠ (.slice Ao32 t249.length co32 : Value).ownBlock) (Kd.R_keptB ((Kd.R_apart' HO264.out (Kd.R_typed HO_9.out) (by decide))) hkp (fun k_ hk_ hs_ => (hk_.2) hs_)) (fun k_ hk_ => hk_.1.1)); have n7_ := Aside0.mk (Kd.R_mono (ok' := fun k_ => some k_ ≠ (.slice Ao37 t254.length co37 : Value).ownBlock) (Kd.R_keptB (HO269.out) hkp (fun k_ hk_ hs_ => (hk_) hs_)) (fun k_ hk_ => hk_.1)); have n8_ := Aside0.mk (hb); clear HO_6 HO_9 HO_10 HO_254000 BK235 BK253 HO264 HO269 HB; have HO_6 := n0_; have HO_9 := n1_; have HO_10 := n2_; have HO_254000 := n3_; have BK235 := n4_; have BK253 := n5_; have HO264 := n6_; have HO269 := n7_; have HB := n8_; clear n0_ n1_ n2_ n3_ n4_ n5_ n6_ n7_ n8_; (try clear hb); (try clear hkp); (try clear hy0)))
                (try simp only [Act.put, List.setIfInBounds_toArray, List.set_cons_zero, List.set_cons_succ])
                go_cut [82] (fun v82 wc => ∃ (kq : Nat) (x82_53 : Bool), v82 = .bool x82_53 ∧ Aside0 (laws_FnExactFastRepeats.j1 kq l1 t245 t248 t257 x82_53 l0_0 a0_1 = some r) ∧ Aside0 (kq ≤ kj18) ∧ Aside0 (Kd.S (Kd.slice 3 (Kd.int .i64)) 53 wc w.heap.size (fun k_ => (some k_ ≠ (v258 : Value).ownBlock ∧ some k_ ≠ ((.slice Ao32 t249.length co32) : Value).ownBlock) ∧ k_ < BB) v246 t245) ∧ Aside0 (Kd.S (Kd.slice 3 (Kd.int .i64)) 53 wc w.heap.size (fun k_ => (some k_ ≠ (v246 : Value).ownBlock ∧ some k_ ≠ ((.slice Ao32 t249.length co32) : Value).ownBlock) ∧ BB ≤ k_) v258 t257) ∧ Aside0 (Kd.R (Kd.int .i64) 3 wc w.heap.size (fun k_ => k_ < BB) (.slice Ao32 t249.length co32) t272) ∧ Aside0 (wc.heap[gb235]? = some (.cells #[(.slice A0_0 l0_0.length c0_0), .int .i64 a0_1] 55 (0, 0))) ∧ Aside0 (wc.heap[gb253]? = some (.cells #[(.slice Ao32 t249.length co32), .int .i64 t252] 59 (0, 0))) ∧ Aside0 (Below w.heap.size w wc))
                case first =>
                  have H := HC54.out
                  clear HC54
                  by_cases c66 : t273 < 0
                  · rw [if_pos c66] at H
                    have c66b0 : decide (t273 < 0) = true := decide_eq_true c66
                    clear c66
                    (first | rw [c66b0] | (simp only [i64_w, i32_w]; rw [c66b0]) | skip)
                    have H' := Aside0.mk H
                    clear H
                    go_wp2
                    go_meet
                    case rel => exact ⟨_, (true), (by first | rfl | (simp; done) | (simp [*]; done)), H', ⟨by have := HJ18.out; first | omega | exact Nat.le_refl _⟩, ⟨by (with_reducible repeat (first | apply Kd.S_alloc | apply Kd.S_drewN | apply Kd.S_drew)); exact Kd.S_mono HO_6.out (fun _ hk => by (repeat' refine And.intro ?_ ?_) <;> first | exact hk | exact hk.2 | exact hk.2.1 | exact hk.2.2.1 | exact hk.2.2.2 | exact hk.1 | exact hk.1.2 | exact hk.1.2.1 | exact hk.1.2.2.1 | exact hk.1.2.2.2 | exact hk.1.1 | exact hk.1.1.2 | exact hk.1.1.2.1 | exact hk.1.1.2.2.1 | exact hk.1.1.2.2.2 | exact hk.1.1.1 | exact hk.1.1.1.2 | exact hk.1.1.1.2.1 | exact hk.1.1.1.2.2.1 | exact hk.1.1.1.2.2.2 | exact hk.1.1.1.1)⟩, ⟨by (with_reducible repeat (first | apply Kd.S_alloc | apply Kd.S_drewN | apply Kd.S_drew)); exact Kd.S_mono HO_10.out (fun _ hk => by (repeat' refine And.intro ?_ ?_) <;> first | exact hk | exact hk.2 | exact hk.2.1 | exact hk.2.2.1 | exact hk.2.2.2 | exact hk.1 | exact hk.1.2 | exact hk.1.2.1 | exact hk.1.2.2.1 | exact hk.1.2.2.2 | exact hk.1.1 | exact hk.1.1.2 | exact hk.1.1.2.1 | exact hk.1.1.2.2.1 | exact hk.1.1.2.2.2 | exact hk.1.1.1 | exact hk.1.1.1.2 | exact hk.1.1.1.2.1 | exact hk.1.1.1.2.2.1 | exact hk.1.1.1.2.2.2 | exact hk.1.1.1.1)⟩, ⟨by (with_reducible repeat (first | apply Kd.R_alloc | apply Kd.R_drewN | apply Kd.R_drew)); exact Kd.R_mono HO_254000.out (fun _ hk => by (repeat' refine And.intro ?_ ?_) <;> first | exact hk | exact hk.2 | exact hk.2.1 | exact hk.2.2.1 | exact hk.2.2.2 | exact hk.1 | exact hk.1.2 | exact hk.1.2.1 | exact hk.1.2.2.1 | exact hk.1.2.2.2 | exact hk.1.1 | exact hk.1.1.2 | exact hk.1.1.2.1 | exact hk.1.1.2.2.1 | exact hk.1.1.2.2.2 | exact hk.1.1.1 | exact hk.1.1.1.2 | exact hk.1.1.1.2.1 | exact hk.1.1.1.2.2.1 | exact hk.1.1.1.2.2.2 | exact hk.1.1.1.1)⟩, ⟨by (with_reducible repeat (first | refine blk_drewN ?_ _ | refine blk_drew ?_ | refine blk_alloc ?_ _)); exact BK235.out⟩, ⟨by (with_reducible repeat (first | refine blk_drewN ?_ _ | refine blk_drew ?_ | refine blk_alloc ?_ _)); exact BK253.out⟩, ⟨by repeat (first | (with_reducible first | exact HB.out | apply below_alloc | apply pw_below_drewN | apply below_drew1 | refine below_set ?_ GE235.out | refine below_set ?_ GE253.out) | exact HB.out)⟩⟩
                  · rw [if_neg c66] at H
                    have c66b0 : decide (t273 < 0) = false := decide_eq_false c66
                    clear c66
                    (first | rw [c66b0] | (simp only [i64_w, i32_w]; rw [c66b0]) | skip)
                    replace H := Option.bind_eq_some_iff.mp H
                    obtain ⟨t275, A670, H⟩ := H
                    replace H : (if t275 = true then (laws_FnExactFastRepeats.j1 kj18 l1 t245 t248 t257 (t260 != t248) l0_0 a0_1) else (laws_FnExactFastRepeats.j1 kj18 l1 t245 t248 t257 true l0_0 a0_1)) = some r := H
                    have A67 := Aside0.mk A670
                    clear A670
                    by_cases c68 : t275 = true
                    · subst c68
                      have H1 : (laws_FnExactFastRepeats.j1 kj18 l1 t245 t248 t257 (t260 != t248) l0_0 a0_1) = some r := by rw [if_pos rfl] at H; exact H
                      clear H
                      have H := H1
                      clear H1
                      have H' := Aside0.mk H
                      clear H
                      obtain ⟨Ao69, co69, eo69⟩ := Kd.S_slice HO_10.out
                      subst eo69
                      obtain ⟨Ao70, co70, eo70⟩ := Kd.S_slice HO_6.out
                      subst eo70
                      go_wp2_with (first | (go_at_call 47; (with_reducible refine (laws_eqIntSS.calls kj18 _ _ t257 _ _ t245 true _ ?side1 ?side2 ?side3 ?side4 A67.out).mono ?_); (case side1 => repeat (first | exact (Kd.S_reads' HO_10.out).2.2 | (with_reducible refine Kd.C_alloc ?_ _) | (with_reducible refine Kd.C_drewN ?_ _) | (with_reducible refine Kd.C_drew ?_))); (case side2 => exact (Kd.S_reads' HO_10.out).2.1); (case side3 => repeat (first | exact (Kd.S_reads' HO_6.out).2.2 | (with_reducible refine Kd.C_alloc ?_ _) | (with_reducible refine Kd.C_drewN ?_ _) | (with_reducible refine Kd.C_drew ?_))); (case side4 => exact (Kd.S_reads' HO_6.out).2.1); rintro e w' ⟨rfl, ⟨nd, rfl⟩⟩))
                      go_meet
                      case rel => exact ⟨_, ((t260 != t248)), (by first | rfl | (simp; done) | (simp [*]; done)), H', ⟨by have := HJ18.out; first | omega | exact Nat.le_refl _⟩, ⟨by (with_reducible repeat (first | apply Kd.S_alloc | apply Kd.S_drewN | apply Kd.S_drew)); exact Kd.S_mono HO_6.out (fun _ hk => by (repeat' refine And.intro ?_ ?_) <;> first | exact hk | exact hk.2 | exact hk.2.1 | exact hk.2.2.1 | exact hk.2.2.2 | exact hk.1 | exact hk.1.2 | exact hk.1.2.1 | exact hk.1.2.2.1 | exact hk.1.2.2.2 | exact hk.1.1 | exact hk.1.1.2 | exact hk.1.1.2.1 | exact hk.1.1.2.2.1 | exact hk.1.1.2.2.2 | exact hk.1.1.1 | exact hk.1.1.1.2 | exact hk.1.1.1.2.1 | exact hk.1.1.1.2.2.1 | exact hk.1.1.1.2.2.2 | exact hk.1.1.1.1)⟩, ⟨by (with_reducible repeat (first | apply Kd.S_alloc | apply Kd.S_drewN | apply Kd.S_drew)); exact Kd.S_mono HO_10.out (fun _ hk => by (repeat' refine And.intro ?_ ?_) <;> first | exact hk | exact hk.2 | exact hk.2.1 | exact hk.2.2.1 | exact hk.2.2.2 | exact hk.1 | exact hk.1.2 | exact hk.1.2.1 | exact hk.1.2.2.1 | exact hk.1.2.2.2 | exact hk.1.1 | exact hk.1.1.2 | exact hk.1.1.2.1 | exact hk.1.1.2.2.1 | exact hk.1.1.2.2.2 | exact hk.1.1.1 | exact hk.1.1.1.2 | exact hk.1.1.1.2.1 | exact hk.1.1.1.2.2.1 | exact hk.1.1.1.2.2.2 | exact hk.1.1.1.1)⟩, ⟨by (with_reducible repeat (first | apply Kd.R_alloc | apply Kd.R_drewN | apply Kd.R_drew)); exact Kd.R_mono HO_254000.out (fun _ hk => by (repeat' refine And.intro ?_ ?_) <;> first | exact hk | exact hk.2 | exact hk.2.1 | exact hk.2.2.1 | exact hk.2.2.2 | exact hk.1 | exact hk.1.2 | exact hk.1.2.1 | exact hk.1.2.2.1 | exact hk.1.2.2.2 | exact hk.1.1 | exact hk.1.1.2 | exact hk.1.1.2.1 | exact hk.1.1.2.2.1 | exact hk.1.1.2.2.2 | exact hk.1.1.1 | exact hk.1.1.1.2 | exact hk.1.1.1.2.1 | exact hk.1.1.1.2.2.1 | exact hk.1.1.1.2.2.2 | exact hk.1.1.1.1)⟩, ⟨by (with_reducible repeat (first | refine blk_drewN ?_ _ | refine blk_drew ?_ | refine blk_alloc ?_ _)); exact BK235.out⟩, ⟨by (with_reducible repeat (first | refine blk_drewN ?_ _ | refine blk_drew ?_ | refine blk_alloc ?_ _)); exact BK253.out⟩, ⟨by repeat (first | (with_reducible first | exact HB.out | apply below_alloc | apply pw_below_drewN | apply below_drew1 | refine below_set ?_ GE235.out | refine below_set ?_ GE253.out) | exact HB.out)⟩⟩
                    · replace c68 := Bool.eq_false_iff.mpr c68
                      subst c68
                      have H1 : (laws_FnExactFastRepeats.j1 kj18 l1 t245 t248 t257 true l0_0 a0_1) = some r := by rw [if_neg (show ¬ (false = true) by decide)] at H; exact H
                      clear H
                      have H := H1
                      clear H1
                      have H' := Aside0.mk H
                      clear H
                      obtain ⟨Ao71, co71, eo71⟩ := Kd.S_slice HO_10.out
                      subst eo71
                      obtain ⟨Ao72, co72, eo72⟩ := Kd.S_slice HO_6.out
                      subst eo72
                      go_wp2_with (first | (go_at_call 47; (with_reducible refine (laws_eqIntSS.calls kj18 _ _ t257 _ _ t245 false _ ?side1 ?side2 ?side3 ?side4 A67.out).mono ?_); (case side1 => repeat (first | exact (Kd.S_reads' HO_10.out).2.2 | (with_reducible refine Kd.C_alloc ?_ _) | (with_reducible refine Kd.C_drewN ?_ _) | (with_reducible refine Kd.C_drew ?_))); (case side2 => exact (Kd.S_reads' HO_10.out).2.1); (case side3 => repeat (first | exact (Kd.S_reads' HO_6.out).2.2 | (with_reducible refine Kd.C_alloc ?_ _) | (with_reducible refine Kd.C_drewN ?_ _) | (with_reducible refine Kd.C_drew ?_))); (case side4 => exact (Kd.S_reads' HO_6.out).2.1); rintro e w' ⟨rfl, ⟨nd, rfl⟩⟩))
                      go_meet
                      case rel => exact ⟨_, (true), (by first | rfl | (simp; done) | (simp [*]; done)), H', ⟨by have := HJ18.out; first | omega | exact Nat.le_refl _⟩, ⟨by (with_reducible repeat (first | apply Kd.S_alloc | apply Kd.S_drewN | apply Kd.S_drew)); exact Kd.S_mono HO_6.out (fun _ hk => by (repeat' refine And.intro ?_ ?_) <;> first | exact hk | exact hk.2 | exact hk.2.1 | exact hk.2.2.1 | exact hk.2.2.2 | exact hk.1 | exact hk.1.2 | exact hk.1.2.1 | exact hk.1.2.2.1 | exact hk.1.2.2.2 | exact hk.1.1 | exact hk.1.1.2 | exact hk.1.1.2.1 | exact hk.1.1.2.2.1 | exact hk.1.1.2.2.2 | exact hk.1.1.1 | exact hk.1.1.1.2 | exact hk.1.1.1.2.1 | exact hk.1.1.1.2.2.1 | exact hk.1.1.1.2.2.2 | exact hk.1.1.1.1)⟩, ⟨by (with_reducible repeat (first | apply Kd.S_alloc | apply Kd.S_drewN | apply Kd.S_drew)); exact Kd.S_mono HO_10.out (fun _ hk => by (repeat' refine And.intro ?_ ?_) <;> first | exact hk | exact hk.2 | exact hk.2.1 | exact hk.2.2.1 | exact hk.2.2.2 | exact hk.1 | exact hk.1.2 | exact hk.1.2.1 | exact hk.1.2.2.1 | exact hk.1.2.2.2 | exact hk.1.1 | exact hk.1.1.2 | exact hk.1.1.2.1 | exact hk.1.1.2.2.1 | exact hk.1.1.2.2.2 | exact hk.1.1.1 | exact hk.1.1.1.2 | exact hk.1.1.1.2.1 | exact hk.1.1.1.2.2.1 | exact hk.1.1.1.2.2.2 | exact hk.1.1.1.1)⟩, ⟨by (with_reducible repeat (first | apply Kd.R_alloc | apply Kd.R_drewN | apply Kd.R_drew)); exact Kd.R_mono HO_254000.out (fun _ hk => by (repeat' refine And.intro ?_ ?_) <;> first | exact hk | exact hk.2 | exact hk.2.1 | exact hk.2.2.1 | exact hk.2.2.2 | exact hk.1 | exact hk.1.2 | exact hk.1.2.1 | exact hk.1.2.2.1 | exact hk.1.2.2.2 | exact hk.1.1 | exact hk.1.1.2 | exact hk.1.1.2.1 | exact hk.1.1.2.2.1 | exact hk.1.1.2.2.2 | exact hk.1.1.1 | exact hk.1.1.1.2 | exact hk.1.1.1.2.1 | exact hk.1.1.1.2.2.1 | exact hk.1.1.1.2.2.2 | exact hk.1.1.1.1)⟩, ⟨by (with_reducible repeat (first | refine blk_drewN ?_ _ | refine blk_drew ?_ | refine blk_alloc ?_ _)); exact BK235.out⟩, ⟨by (with_reducible repeat (first | refine blk_drewN ?_ _ | refine blk_drew ?_ | refine blk_alloc ?_ _)); exact BK253.out⟩, ⟨by repeat (first | (with_reducible first | exact HB.out | apply below_alloc | apply pw_below_drewN | apply below_drew1 | refine below_set ?_ GE235.out | refine below_set ?_ GE253.out) | exact HB.out)⟩⟩
                case rest =>
                  clear HC54
                  try clear c1
                  try clear p2
                  try clear c3
                  try clear c4
                  try clear c4b0
                  try clear c5
                  try clear c6
                  try clear c9
                  try clear c9b0
                  try clear c13
                  try clear c15
                  try clear c17
                  try clear c18
                  try clear c33
                  try clear c35
                  try clear c37
                  try clear c39
                  try clear c40
                  try clear c42
                  try clear c45
                  try clear c46
                  try clear c47
                  try clear c48
                  try clear c51
                  try clear c62
                  try clear c66
                  try clear c66b0
                  try clear c68
                  try clear hcz11_0
                  try clear hcz11_1
                  try clear hcz21_0
                  try clear hcz21_1
                  try clear hcz23_0
                  try clear hcz23_1
                  try clear hcz29_0
                  try clear hcz29_1
                  try clear hcz34_0
                  try clear hcz34_1
                  try clear hcz36_0
                  try clear hcz36_1
                  try clear hcz63_0
                  try clear hcz63_1
                  try clear hcz6_0
                  try clear hcz6_1
                  try clear hfz11_0
                  try clear hfz11_1
                  try clear hfz21_0
                  try clear hfz21_1
                  try clear hfz23_0
                  try clear hfz23_1
                  try clear hfz29_0
                  try clear hfz29_1
                  try clear hfz34_0
                  try clear hfz34_1
                  try clear hfz36_0
                  try clear hfz36_1
                  try clear hfz63_0
                  try clear hfz63_1
                  try clear hfz6_0
                  try clear hfz6_1
                  try clear p2
                  obtain ⟨kq, x82_53, rfl, HA, HJ53, HO_6, HO_10, HO_254000, BK235, BK253, HB⟩ := hcut
                  have hl254000_53 := (Kd.R_reads' HO_254000.out).1
                  rw [hl254000_53] at HO_254000
                  (try simp only [hl254000_53])
                  (try simp only [hl254000_53] at BK235)
                  (try simp only [hl254000_53] at BK253)
                  (try simp only [hl254000_53] at HO_6)
                  (try simp only [hl254000_53] at HO_10)
                  cases kq with
                  | zero => exact absurd HA.out (by simp [laws_FnExactFastRepeats.j1])
                  | succ kj53 =>
                    have H := HA.out
                    clear HA
                    simp only [laws_FnExactFastRepeats.j1] at H
                    by_cases c73 : x82_53 = true
                    · subst c73
                      have H1 : (some false) = some r := by rw [if_pos rfl] at H; exact H
                      clear H
                      have H := H1
                      clear H1
                      obtain rfl := Option.some.inj H
                      go_wp2
                      go_ret
                      exact ⟨by first | rfl | (simp [errW_none, errW_some] <;> rfl) | (simp [*, errW_none, errW_some] <;> rfl), by repeat (first | (with_reducible first | exact HB.out | apply below_alloc | apply pw_below_drewN | apply below_drew1 | refine below_set ?_ GE235.out | refine below_set ?_ GE253.out) | exact HB.out)⟩
                    · replace c73 := Bool.eq_false_iff.mpr c73
                      subst c73
                      have H1 : ((laws_markIntSS.f kj53 t257 1).bind fun bt276 => ((laws_heldIntSS.f kj53 bt276.2 1).bind fun t278 => (if t278 < 0 then (some false) else (if t278 = bt276.1 then ((laws_toInstrument.f kj53 l0_0 a0_1).bind fun bt279 => ((laws_toNoteS.f kj53 l1).bind fun t283 => ((impl_FastRepeats.f kj53 bt279.1 bt279.2 t283).bind fun bt286 => ((laws_eqIntSS.f kj53 bt286.1 t245).bind fun t290 => (if t290 = true then (laws_FnExactFastRepeats.j2 kj53 bt276.2 bt276.1 (bt286.2 != t248)) else (laws_FnExactFastRepeats.j2 kj53 bt276.2 bt276.1 true)))))) else (some false))))) = some r := by rw [if_neg (show ¬ (false = true) by decide)] at H; exact H
                      clear H
                      have H := H1
                      clear H1
                      replace H := Option.bind_eq_some_iff.mp H
                      obtain ⟨⟨t276, t277⟩, A740, H⟩ := H
                      replace H : ((laws_heldIntSS.f kj53 t277 1).bind fun t278 => (if t278 < 0 then (some false) else (if t278 = t276 then ((laws_toInstrument.f kj53 l0_0 a0_1).bind fun bt279 => ((laws_toNoteS.f kj53 l1).bind fun t283 => ((impl_FastRepeats.f kj53 bt279.1 bt279.2 t283).bind fun bt286 => ((laws_eqIntSS.f kj53 bt286.1 t245).bind fun t290 => (if t290 = true then (laws_FnExactFastRepeats.j2 kj53 t277 t276 (bt286.2 != t248)) else (laws_FnExactFastRepeats.j2 kj53 t277 t276 true)))))) else (some false)))) = some r := H
                      have A74 := Aside0.mk A740
                      clear A740
                      replace H := Option.bind_eq_some_iff.mp H
                      obtain ⟨t278, A750, H⟩ := H
                      replace H : (if t278 < 0 then (some false) else (if t278 = t276 then ((laws_toInstrument.f kj53 l0_0 a0_1).bind fun bt279 => ((laws_toNoteS.f kj53 l1).bind fun t283 => ((impl_FastRepeats.f kj53 bt279.1 bt279.2 t283).bind fun bt286 => ((laws_eqIntSS.f kj53 bt286.1 t245).bind fun t290 => (if t290 = true then (laws_FnExactFastRepeats.j2 kj53 t277 t276 (bt286.2 != t248)) else (laws_FnExactFastRepeats.j2 kj53 t277 t276 true)))))) else (some false))) = some r := H
                      have A75 := Aside0.mk A750
                      clear A750
                      by_cases c76 : t278 < 0
                      · rw [if_pos c76] at H
                        have c76b0 : decide (t278 < 0) = true := decide_eq_true c76
                        clear c76
                        obtain rfl := Option.some.inj H
                        obtain ⟨Ao77, co77, eo77⟩ := Kd.S_slice HO_10.out
                        subst eo77
                        go_wp2_with (first | ((with_reducible refine gate_callee (f := 48) rfl ?_); refine goesL_ (some 85) rfl rfl Try.func48 (by kernel_rfl) rfl #[.slice Ao77 t257.length co77, .int .i64 1] rfl (by (try simp only [List.map_toArray, List.map_cons, List.map_nil]); first | done | rfl | (simp only [List.length_drop, List.length_take]; rfl)) ?_; (with_reducible refine (laws_markIntSS.calls kj53 (fun k_ => BB ≤ k_) (.slice Ao77 t257.length co77) t257 1 t276 t277 w _ ?side1 ?side2 A74.out).mono ?_); (case side1 => repeat (first | (with_reducible first | exact HB.out | apply below_alloc | apply pw_below_drewN | apply below_drew1 | refine below_set ?_ GE235.out | refine below_set ?_ GE253.out) | exact HB.out)); (case side2 => exact Kd.S_mono HO_10.out (fun _ hk_ => hk_.2)); rintro e w78 ⟨rfl, hy0, hb, hkp⟩; refine ⟨_, rfl, ?_⟩; have n0_ := Aside0.mk (Kd.S_mono (ok' := fun k_ => some k_ ≠ (.slice Ao77 t257.length co77 : Value).ownBlock ∧ some k_ ≠ (.slice Ao32 t272.length co32 : Value).ownBlock) (Kd.S_keptB (HO_6.out) hkp (fun k_ hk_ hs_ => absurd hs_ (Nat.not_le_of_lt hk_.2))) (fun k_ hk_ => by (repeat' refine And.intro ?_ ?_) <;> first | exact hk_ | exact hk_.2 | exact hk_.2.1 | exact hk_.2.2.1 | exact hk_.2.2.2 | exact hk_.1 | exact hk_.1.2 | exact hk_.1.2.1 | exact hk_.1.2.2.1 | exact hk_.1.2.2.2 | exact hk_.1.1 | exact hk_.1.1.2 | exact hk_.1.1.2.1 | exact hk_.1.1.2.2.1 | exact hk_.1.1.2.2.2 | exact hk_.1.1.1 | exact hk_.1.1.1.2 | exact hk_.1.1.1.2.1 | exact hk_.1.1.1.2.2.1 | exact hk_.1.1.1.2.2.2 | exact hk_.1.1.1.1)); have n1_ := Aside0.mk (Kd.S_mono (ok' := fun k_ => some k_ ≠ (v246 : Value).ownBlock ∧ some k_ ≠ (.slice Ao32 t272.length co32 : Value).ownBlock) hy0 (fun k_ hk_ => ⟨fun e_ => by have h1_ := ((Kd.S_R HO_6.out).1 k_ e_.symm).2; have h2_ := Kd.S_lt HO_6.out k_ e_.symm; omega, fun e_ => by have h1_ := HO_254000.out.1 k_ e_.symm; have h2_ := Kd.R_lt HO_254000.out k_ e_.symm; omega⟩)); have n2_ := Aside0.mk (Kd.R_mono (ok' := fun k_ => True) (Kd.R_keptB (HO_254000.out) hkp (fun k_ hk_ hs_ => absurd hs_ (Nat.not_le_of_lt hk_))) (fun k_ hk_ => trivial)); have n3_ := Aside0.mk (blk_kept (by (with_reducible repeat (first | refine blk_drewN ?_ _ | refine blk_drew ?_ | refine blk_alloc ?_ _)); exact BK235.out) hkp (fun hs_ => absurd hs_ (Nat.not_le_of_lt HBB235.out))); have n4_ := Aside0.mk (blk_kept (by (with_reducible repeat (first | refine blk_drewN ?_ _ | refine blk_drew ?_ | refine blk_alloc ?_ _)); exact BK253.out) hkp (fun hs_ => absurd hs_ (Nat.not_le_of_lt HBB253.out))); have n5_ := Aside0.mk (hb); clear HO_6 HO_10 HO_254000 BK235 BK253 HB; have HO_6 := n0_; have HO_10 := n1_; have HO_254000 := n2_; have BK235 := n3_; have BK253 := n4_; have HB := n5_; clear n0_ n1_ n2_ n3_ n4_ n5_; (try clear hb); (try clear hkp); (try clear hy0)) | ((with_reducible refine gate_callee (f := 49) rfl ?_); refine goesL_ (some 88) rfl rfl Try.func49 (by kernel_rfl) rfl #[.slice Ao77 t277.length co77, .int .i64 1] rfl (by (try simp only [List.map_toArray, List.map_cons, List.map_nil]); first | done | (rw [show t277.length = t257.length from (Kd.S_reads' HO_10.out).1.symm] <;> rfl) | rfl | (simp only [List.length_drop, List.length_take]; rfl)) ?_; (with_reducible refine (laws_heldIntSS.calls kj53 _ _ t277 1 t278 _ ?side1 ?side2 A75.out).mono ?_); (case side1 => repeat (first | exact (Kd.S_reads' HO_10.out).2.2 | (with_reducible refine Kd.C_alloc ?_ _) | (with_reducible refine Kd.C_drewN ?_ _) | (with_reducible refine Kd.C_drew ?_))); (case side2 => rw [show t277.length = t257.length from (Kd.S_reads' HO_10.out).1.symm]; exact (Kd.S_reads' HO_10.out).2.1); rintro e w' ⟨rfl, ⟨nd, rfl⟩⟩; refine ⟨_, rfl, ?_⟩))
                        go_ret
                        exact ⟨by first | rfl | (simp [errW_none, errW_some] <;> rfl) | (simp [*, errW_none, errW_some] <;> rfl), by repeat (first | (with_reducible first | exact HB.out | apply below_alloc | apply pw_below_drewN | apply below_drew1 | refine below_set ?_ GE235.out | refine below_set ?_ GE253.out) | exact HB.out)⟩
                      · rw [if_neg c76] at H
                        have c76b0 : decide (t278 < 0) = false := decide_eq_false c76
                        clear c76
                        by_cases c79 : t278 = t276
                        · rw [if_pos c79] at H
                          have c79b0 : (t278 == t276) = true := beq_iff_eq.mpr c79
                          have c79b1 : (t278 != t276) = false := bne_eq_false_iff_eq.mpr c79
                          clear c79
                          replace H := Option.bind_eq_some_iff.mp H
                          obtain ⟨⟨t279, t282⟩, A800, H⟩ := H
                          replace H : ((laws_toNoteS.f kj53 l1).bind fun t283 => ((impl_FastRepeats.f kj53 t279 t282 t283).bind fun bt286 => ((laws_eqIntSS.f kj53 bt286.1 t245).bind fun t290 => (if t290 = true then (laws_FnExactFastRepeats.j2 kj53 t277 t276 (bt286.2 != t248)) else (laws_FnExactFastRepeats.j2 kj53 t277 t276 true))))) = some r := H
                          have A80 := Aside0.mk A800
                          clear A800
                          replace H := Option.bind_eq_some_iff.mp H
                          obtain ⟨t283, A810, H⟩ := H
                          replace H : ((impl_FastRepeats.f kj53 t279 t282 t283).bind fun bt286 => ((laws_eqIntSS.f kj53 bt286.1 t245).bind fun t290 => (if t290 = true then (laws_FnExactFastRepeats.j2 kj53 t277 t276 (bt286.2 != t248)) else (laws_FnExactFastRepeats.j2 kj53 t277 t276 true)))) = some r := H
                          have A81 := Aside0.mk A810
                          clear A810
                          replace H := Option.bind_eq_some_iff.mp H
                          obtain ⟨⟨t286, t289⟩, A820, H⟩ := H
                          replace H : ((laws_eqIntSS.f kj53 t286 t245).bind fun t290 => (if t290 = true then (laws_FnExactFastRepeats.j2 kj53 t277 t276 (t289 != t248)) else (laws_FnExactFastRepeats.j2 kj53 t277 t276 true))) = some r := H
                          have A82 := Aside0.mk A820
                          clear A820
                          have HC83 := Aside0.mk H
                          clear H
                          obtain ⟨Ao84, co84, eo84⟩ := Kd.S_slice HO_10.out
                          subst eo84
                          go_upto_region 32 with (first | ((with_reducible refine gate_callee (f := 48) rfl ?_); refine goesL_ (some 85) rfl rfl Try.func48 (by kernel_rfl) rfl #[.slice Ao84 t257.length co84, .int .i64 1] rfl (by (try simp only [List.map_toArray, List.map_cons, List.map_nil]); first | done | rfl | (simp only [List.length_drop, List.length_take]; rfl)) ?_; (with_reducible refine (laws_markIntSS.calls kj53 (fun k_ => BB ≤ k_) (.slice Ao84 t257.length co84) t257 1 t276 t277 w _ ?side1 ?side2 A74.out).mono ?_); (case side1 => repeat (first | (with_reducible first | exact HB.out | apply below_alloc | apply pw_below_drewN | apply below_drew1 | refine below_set ?_ GE235.out | refine below_set ?_ GE253.out) | exact HB.out)); (case side2 => exact Kd.S_mono HO_10.out (fun _ hk_ => hk_.2)); rintro e w85 ⟨rfl, hy0, hb, hkp⟩; refine ⟨_, rfl, ?_⟩; have n0_ := Aside0.mk (Kd.S_mono (ok' := fun k_ => some k_ ≠ (.slice Ao84 t257.length co84 : Value).ownBlock ∧ some k_ ≠ (.slice Ao32 t272.length co32 : Value).ownBlock) (Kd.S_keptB (HO_6.out) hkp (fun k_ hk_ hs_ => absurd hs_ (Nat.not_le_of_lt hk_.2))) (fun k_ hk_ => by (repeat' refine And.intro ?_ ?_) <;> first | exact hk_ | exact hk_.2 | exact hk_.2.1 | exact hk_.2.2.1 | exact hk_.2.2.2 | exact hk_.1 | exact hk_.1.2 | exact hk_.1.2.1 | exact hk_.1.2.2.1 | exact hk_.1.2.2.2 | exact hk_.1.1 | exact hk_.1.1.2 | exact hk_.1.1.2.1 | exact hk_.1.1.2.2.1 | exact hk_.1.1.2.2.2 | exact hk_.1.1.1 | exact hk_.1.1.1.2 | exact hk_.1.1.1.2.1 | exact hk_.1.1.1.2.2.1 | exact hk_.1.1.1.2.2.2 | exact hk_.1.1.1.1)); have n1_ := Aside0.mk (Kd.S_mono (ok' := fun k_ => some k_ ≠ (v246 : Value).ownBlock ∧ some k_ ≠ (.slice Ao32 t272.length co32 : Value).ownBlock) hy0 (fun k_ hk_ => ⟨fun e_ => by have h1_ := ((Kd.S_R HO_6.out).1 k_ e_.symm).2; have h2_ := Kd.S_lt HO_6.out k_ e_.symm; omega, fun e_ => by have h1_ := HO_254000.out.1 k_ e_.symm; have h2_ := Kd.R_lt HO_254000.out k_ e_.symm; omega⟩)); have n2_ := Aside0.mk (Kd.R_mono (ok' := fun k_ => True) (Kd.R_keptB (HO_254000.out) hkp (fun k_ hk_ hs_ => absurd hs_ (Nat.not_le_of_lt hk_))) (fun k_ hk_ => trivial)); have n3_ := Aside0.mk (blk_kept (by (with_reducible repeat (first | refine blk_drewN ?_ _ | refine blk_drew ?_ | refine blk_alloc ?_ _)); exact BK235.out) hkp (fun hs_ => absurd hs_ (Nat.not_le_of_lt HBB235.out))); have n4_ := Aside0.mk (blk_kept (by (with_reducible repeat (first | refine blk_drewN ?_ _ | refine blk_drew ?_ | refine blk_alloc ?_ _)); exact BK253.out) hkp (fun hs_ => absurd hs_ (Nat.not_le_of_lt HBB253.out))); have n5_ := Aside0.mk (hb); clear HO_6 HO_10 HO_254000 BK235 BK253 HB; have HO_6 := n0_; have HO_10 := n1_; have HO_254000 := n2_; have BK235 := n3_; have BK253 := n4_; have HB := n5_; clear n0_ n1_ n2_ n3_ n4_ n5_; (try clear hb); (try clear hkp); (try clear hy0)) | ((with_reducible refine gate_callee (f := 49) rfl ?_); refine goesL_ (some 88) rfl rfl Try.func49 (by kernel_rfl) rfl #[.slice Ao84 t277.length co84, .int .i64 1] rfl (by (try simp only [List.map_toArray, List.map_cons, List.map_nil]); first | done | (rw [show t277.length = t257.length from (Kd.S_reads' HO_10.out).1.symm] <;> rfl) | rfl | (simp only [List.length_drop, List.length_take]; rfl)) ?_; (with_reducible refine (laws_heldIntSS.calls kj53 _ _ t277 1 t278 _ ?side1 ?side2 A75.out).mono ?_); (case side1 => repeat (first | exact (Kd.S_reads' HO_10.out).2.2 | (with_reducible refine Kd.C_alloc ?_ _) | (with_reducible refine Kd.C_drewN ?_ _) | (with_reducible refine Kd.C_drew ?_))); (case side2 => rw [show t277.length = t257.length from (Kd.S_reads' HO_10.out).1.symm]; exact (Kd.S_reads' HO_10.out).2.1); rintro e w' ⟨rfl, ⟨nd, rfl⟩⟩; refine ⟨_, rfl, ?_⟩; have hnb86 := NB235_253.out; have hnc86 := NB253_235.out; have hcz87_0 : w85.cell? ⟨gb235, 0, none⟩ = some (.slice A0_0 l0_0.length c0_0) := (blk_cell BK235.out 0).trans rfl; have hcz87_1 : w85.cell? ⟨gb235, 1, none⟩ = some (.int .i64 a0_1) := (blk_cell BK235.out 1).trans rfl; have hfz87_0 := blk_frozen BK235.out 0; have hfz87_1 := blk_frozen BK235.out 1) | ((with_reducible refine gate_callee (f := 37) rfl ?_); refine goesL_ (some 96) rfl rfl Try.func37 (by kernel_rfl) rfl #[.agg #[.slice A0_0 l0_0.length c0_0, .int .i64 a0_1]] rfl (by (try simp only [List.map_toArray, List.map_cons, List.map_nil]); first | done | rfl | (simp only [List.length_drop, List.length_take]; rfl)) ?_; (with_reducible refine (laws_toInstrument.calls kj53 _ _ l0_0 a0_1 t279 t282 _ ?side1 ?side2 A80.out).mono ?_); (case side1 => repeat (first | exact (Kd.C_below HR0_0.out (by repeat (first | (with_reducible first | exact HB.out | apply below_alloc | apply pw_below_drewN | apply below_drew1 | refine below_set ?_ GE235.out | refine below_set ?_ GE253.out) | exact HB.out))) | (with_reducible refine Kd.C_alloc ?_ _) | (with_reducible refine Kd.C_drewN ?_ _) | (with_reducible refine Kd.C_drew ?_))); (case side2 => exact HC0_0.out); rintro e w88 ⟨v280, rfl, ho0, hb⟩; refine ⟨_, rfl, ?_⟩; have n0_ := Aside0.mk (Kd.S_elder' (by (with_reducible repeat (first | apply Kd.S_alloc | apply Kd.S_drewN | apply Kd.S_drew)); exact HO_6.out) (Kd.R_base ho0) hb); have n1_ := Aside0.mk (Kd.S_elder' (by (with_reducible repeat (first | apply Kd.S_alloc | apply Kd.S_drewN | apply Kd.S_drew)); exact HO_10.out) (Kd.R_base ho0) hb); have n2_ := Aside0.mk (Kd.R_elder' (by (with_reducible repeat (first | apply Kd.R_alloc | apply Kd.R_drewN | apply Kd.R_drew)); exact HO_254000.out) (Kd.R_base ho0) hb); have n3_ := Aside0.mk (Kd.R_lower (Kd.R_new' ho0 (Kd.R_lt (by (with_reducible repeat (first | apply Kd.R_alloc | apply Kd.R_drewN | apply Kd.R_drew)); exact HO_254000.out))) (below_size (by repeat (first | (with_reducible first | exact HB.out | apply below_alloc | apply pw_below_drewN | apply below_drew1 | refine below_set ?_ GE235.out | refine below_set ?_ GE253.out) | exact HB.out)))); have n4_ := Aside0.mk (blk_below (g := gb235) (o := .cells #[.slice A0_0 l0_0.length c0_0, .int .i64 a0_1] 55 (0, 0)) (by (with_reducible repeat (first | refine blk_drewN ?_ _ | refine blk_drew ?_ | refine blk_alloc ?_ _)); exact BK235.out) hb); have n5_ := Aside0.mk (blk_below (g := gb253) (o := .cells #[.slice Ao32 t272.length co32, .int .i64 t252] 59 (0, 0)) (by (with_reducible repeat (first | refine blk_drewN ?_ _ | refine blk_drew ?_ | refine blk_alloc ?_ _)); exact BK253.out) hb); have n6_ := Aside0.mk (below_step (by repeat (first | (with_reducible first | exact HB.out | apply below_alloc | apply pw_below_drewN | apply below_drew1 | refine below_set ?_ GE235.out | refine below_set ?_ GE253.out) | exact HB.out)) hb); clear HO_6 HO_10 HO_254000 BK235 BK253 HB; have HO_6 := n0_; have HO_10 := n1_; have HO_254000 := n2_; have HO281 := n3_; have BK235 := n4_; have BK253 := n5_; have HB := n6_; clear n0_ n1_ n2_ n3_ n4_ n5_ n6_; (try clear hb); (try clear hb2); (try clear hk); (try clear hi); (try clear ho0)) | ((with_reducible refine gate_callee (f := 15) rfl ?_); refine goesL_ (some 98) rfl rfl Try.func15 (by kernel_rfl) rfl #[.slice A1 l1.length c1] rfl (by (try simp only [List.map_toArray, List.map_cons, List.map_nil]); first | done | rfl | (simp only [List.length_drop, List.length_take]; rfl)) ?_; (with_reducible refine (laws_toNoteS.calls kj53 _ _ l1 t283 _ ?side1 ?side2 A81.out).mono ?_); (case side1 => repeat (first | exact (Kd.C_below HR1.out HB.out) | (with_reducible refine Kd.C_alloc ?_ _) | (with_reducible refine Kd.C_drewN ?_ _) | (with_reducible refine Kd.C_drew ?_))); (case side2 => exact HC1.out); rintro e w89 ⟨v284, rfl, ho0, hb⟩; refine ⟨_, rfl, ?_⟩; have n0_ := Aside0.mk (Kd.S_below (by (with_reducible repeat (first | apply Kd.S_alloc | apply Kd.S_drewN | apply Kd.S_drew)); exact HO_6.out) hb); have n1_ := Aside0.mk (Kd.S_below (by (with_reducible repeat (first | apply Kd.S_alloc | apply Kd.S_drewN | apply Kd.S_drew)); exact HO_10.out) hb); have n2_ := Aside0.mk (Kd.R_below (by (with_reducible repeat (first | apply Kd.R_alloc | apply Kd.R_drewN | apply Kd.R_drew)); exact HO_254000.out) hb); have n3_ := Aside0.mk (Kd.R_below (by (with_reducible repeat (first | apply Kd.R_alloc | apply Kd.R_drewN | apply Kd.R_drew)); exact HO281.out) hb); have n4_ := Aside0.mk (Kd.R_lower ho0 (below_size (by repeat (first | (with_reducible first | exact HB.out | apply below_alloc | apply pw_below_drewN | apply below_drew1 | refine below_set ?_ GE235.out | refine below_set ?_ GE253.out) | exact HB.out)))); have n5_ := Aside0.mk (blk_below (g := gb235) (o := .cells #[.slice A0_0 l0_0.length c0_0, .int .i64 a0_1] 55 (0, 0)) (by (with_reducible repeat (first | refine blk_drewN ?_ _ | refine blk_drew ?_ | refine blk_alloc ?_ _)); exact BK235.out) hb); have n6_ := Aside0.mk (blk_below (g := gb253) (o := .cells #[.slice Ao32 t272.length co32, .int .i64 t252] 59 (0, 0)) (by (with_reducible repeat (first | refine blk_drewN ?_ _ | refine blk_drew ?_ | refine blk_alloc ?_ _)); exact BK253.out) hb); have n7_ := Aside0.mk (below_step (by repeat (first | (with_reducible first | exact HB.out | apply below_alloc | apply pw_below_drewN | apply below_drew1 | refine below_set ?_ GE235.out | refine below_set ?_ GE253.out) | exact HB.out)) hb); clear HO_6 HO_10 HO_254000 HO281 BK235 BK253 HB; have HO_6 := n0_; have HO_10 := n1_; have HO_254000 := n2_; have HO281 := n3_; have HO285 := n4_; have BK235 := n5_; have BK253 := n6_; have HB := n7_; clear n0_ n1_ n2_ n3_ n4_ n5_ n6_ n7_; (try clear hb); (try clear hb2); (try clear hk); (try clear hi); (try clear ho0); obtain ⟨Ao90, co90, eo90⟩ := Kd.R_slice HO281.out; subst eo90; obtain ⟨Ao91, co91, eo91⟩ := Kd.R_slice HO285.out; subst eo91) | ((with_reducible refine gate_callee (f := 46) rfl ?_); refine goesL_ (some 99) rfl rfl Try.func46 (by kernel_rfl) rfl #[.agg #[.slice Ao90 t279.length co90, .int .i64 t282], .slice Ao91 t283.length co91] rfl (by (try simp only [List.map_toArray, List.map_cons, List.map_nil]); first | done | rfl | (simp only [List.length_drop, List.length_take]; rfl)) ?_; (with_reducible refine (impl_FastRepeats.calls kj53 _ _ t279 t282 _ _ t283 t286 t289 _ ?side1 ?side2 ?side3 ?side4 A82.out).mono ?_); (case side1 => repeat (first | exact (Kd.R_reads' HO281.out).2.2 | (with_reducible refine Kd.C_alloc ?_ _) | (with_reducible refine Kd.C_drewN ?_ _) | (with_reducible refine Kd.C_drew ?_))); (case side2 => exact (Kd.R_reads' HO281.out).2.1); (case side3 => repeat (first | exact (Kd.R_reads' HO285.out).2.2 | (with_reducible refine Kd.C_alloc ?_ _) | (with_reducible refine Kd.C_drewN ?_ _) | (with_reducible refine Kd.C_drew ?_))); (case side4 => exact (Kd.R_reads' HO285.out).2.1); rintro e w92 ⟨v287, rfl, ho0, hb⟩; refine ⟨_, rfl, ?_⟩; have n0_ := Aside0.mk (Kd.S_elder' (by (with_reducible repeat (first | apply Kd.S_alloc | apply Kd.S_drewN | apply Kd.S_drew)); exact HO_6.out) (Kd.S_base ho0) hb); have n1_ := Aside0.mk (Kd.S_elder' (by (with_reducible repeat (first | apply Kd.S_alloc | apply Kd.S_drewN | apply Kd.S_drew)); exact HO_10.out) (Kd.S_base ho0) hb); have n2_ := Aside0.mk (Kd.R_below (by (with_reducible repeat (first | apply Kd.R_alloc | apply Kd.R_drewN | apply Kd.R_drew)); exact HO_254000.out) hb); have n3_ := Aside0.mk (Kd.R_below (by (with_reducible repeat (first | apply Kd.R_alloc | apply Kd.R_drewN | apply Kd.R_drew)); exact HO281.out) hb); have n4_ := Aside0.mk (Kd.R_below (by (with_reducible repeat (first | apply Kd.R_alloc | apply Kd.R_drewN | apply Kd.R_drew)); exact HO285.out) hb); have n5_ := Aside0.mk (Kd.S_lower (Kd.S_new' (Kd.S_new' (Kd.S_new' (Kd.S_new' ho0 (Kd.S_lt (by (with_reducible repeat (first | apply Kd.S_alloc | apply Kd.S_drewN | apply Kd.S_drew)); exact HO_6.out))) (Kd.S_lt (by (with_reducible repeat (first | apply Kd.S_alloc | apply Kd.S_drewN | apply Kd.S_drew)); exact HO_10.out))) (Kd.R_lt (by (with_reducible repeat (first | apply Kd.R_alloc | apply Kd.R_drewN | apply Kd.R_drew)); exact HO_254000.out))) (Kd.R_lt (by (with_reducible repeat (first | apply Kd.R_alloc | apply Kd.R_drewN | apply Kd.R_drew)); exact HO281.out))) (below_size (by repeat (first | (with_reducible first | exact HB.out | apply below_alloc | apply pw_below_drewN | apply below_drew1 | refine below_set ?_ GE235.out | refine below_set ?_ GE253.out) | exact HB.out)))); have n6_ := Aside0.mk (blk_below (g := gb235) (o := .cells #[.slice A0_0 l0_0.length c0_0, .int .i64 a0_1] 55 (0, 0)) (by (with_reducible repeat (first | refine blk_drewN ?_ _ | refine blk_drew ?_ | refine blk_alloc ?_ _)); exact BK235.out) hb); have n7_ := Aside0.mk (blk_below (g := gb253) (o := .cells #[.slice Ao32 t272.length co32, .int .i64 t252] 59 (0, 0)) (by (with_reducible repeat (first | refine blk_drewN ?_ _ | refine blk_drew ?_ | refine blk_alloc ?_ _)); exact BK253.out) hb); have n8_ := Aside0.mk (below_step (by repeat (first | (with_reducible first | exact HB.out | apply below_alloc | apply pw_below_drewN | apply below_drew1 | refine below_set ?_ GE235.out | refine below_set ?_ GE253.out) | exact HB.out)) hb); clear HO_6 HO_10 HO_254000 HO281 HO285 BK235 BK253 HB; have HO_6 := n0_; have HO_10 := n1_; have HO_254000 := n2_; have HO281 := n3_; have HO285 := n4_; have HO288 := n5_; have BK235 := n6_; have BK253 := n7_; have HB := n8_; clear n0_ n1_ n2_ n3_ n4_ n5_ n6_ n7_ n8_; (try clear hb); (try clear hb2); (try clear hk); (try clear hi); (try clear ho0)))
                          (try simp only [Act.put, List.setIfInBounds_toArray, List.set_cons_zero, List.set_cons_succ])
                          go_cut [110] (fun v110 wc => ∃ (kq : Nat) (x110_82 : Bool), v110 = .bool x110_82 ∧ Aside0 (laws_FnExactFastRepeats.j2 kq t277 t276 x110_82 = some r) ∧ Aside0 (kq ≤ kj53) ∧ Aside0 (Kd.S (Kd.slice 3 (Kd.int .i64)) 53 wc w.heap.size (fun k_ => some k_ ≠ ((.slice Ao32 t272.length co32) : Value).ownBlock) (.slice Ao84 t257.length co84) t277) ∧ Aside0 (Kd.R (Kd.int .i64) 3 wc w.heap.size (fun _ => True) (.slice Ao32 t272.length co32) t272) ∧ Aside0 (wc.heap[gb235]? = some (.cells #[(.slice A0_0 l0_0.length c0_0), .int .i64 a0_1] 55 (0, 0))) ∧ Aside0 (wc.heap[gb253]? = some (.cells #[(.slice Ao32 t272.length co32), .int .i64 t252] 59 (0, 0))) ∧ Aside0 (Below w.heap.size w wc))
                          case first =>
                            have H := HC83.out
                            clear HC83
                            replace H := Option.bind_eq_some_iff.mp H
                            obtain ⟨t290, A930, H⟩ := H
                            replace H : (if t290 = true then (laws_FnExactFastRepeats.j2 kj53 t277 t276 (t289 != t248)) else (laws_FnExactFastRepeats.j2 kj53 t277 t276 true)) = some r := H
                            have A93 := Aside0.mk A930
                            clear A930
                            by_cases c94 : t290 = true
                            · subst c94
                              have H1 : (laws_FnExactFastRepeats.j2 kj53 t277 t276 (t289 != t248)) = some r := by rw [if_pos rfl] at H; exact H
                              clear H
                              have H := H1
                              clear H1
                              have H' := Aside0.mk H
                              clear H
                              obtain ⟨Ao95, co95, eo95⟩ := Kd.S_slice HO288.out
                              subst eo95
                              obtain ⟨Ao96, co96, eo96⟩ := Kd.S_slice HO_6.out
                              subst eo96
                              go_wp2_with (first | ((with_reducible refine gate_callee (f := 47) rfl ?_); refine goesL_ (some 104) rfl rfl Try.func47 (by kernel_rfl) rfl #[.slice Ao95 t286.length co95, .slice Ao96 t245.length co96] rfl (by (try simp only [List.map_toArray, List.map_cons, List.map_nil]); first | done | rfl | (simp only [List.length_drop, List.length_take]; rfl)) ?_; (with_reducible refine (laws_eqIntSS.calls kj53 _ _ t286 _ _ t245 true _ ?side1 ?side2 ?side3 ?side4 A93.out).mono ?_); (case side1 => repeat (first | exact (Kd.S_reads' HO288.out).2.2 | (with_reducible refine Kd.C_alloc ?_ _) | (with_reducible refine Kd.C_drewN ?_ _) | (with_reducible refine Kd.C_drew ?_))); (case side2 => exact (Kd.S_reads' HO288.out).2.1); (case side3 => repeat (first | exact (Kd.S_reads' HO_6.out).2.2 | (with_reducible refine Kd.C_alloc ?_ _) | (with_reducible refine Kd.C_drewN ?_ _) | (with_reducible refine Kd.C_drew ?_))); (case side4 => exact (Kd.S_reads' HO_6.out).2.1); rintro e w' ⟨rfl, ⟨nd, rfl⟩⟩; refine ⟨_, rfl, ?_⟩))
                              go_meet
                              case rel => exact ⟨_, ((t289 != t248)), (by first | rfl | (simp; done) | (simp [*]; done)), H', ⟨by have := HJ18.out; have := HJ53.out; first | omega | exact Nat.le_refl _⟩, ⟨by (try simp only [hl254000_53]); (with_reducible repeat (first | apply Kd.S_alloc | apply Kd.S_drewN | apply Kd.S_drew)); exact Kd.S_mono HO_10.out (fun _ hk => hk.1.1.2)⟩, ⟨by (try simp only [hl254000_53]); (with_reducible repeat (first | apply Kd.R_alloc | apply Kd.R_drewN | apply Kd.R_drew)); exact Kd.R_mono HO_254000.out (fun _ hk => trivial)⟩, ⟨by (try simp only [hl254000_53]); (with_reducible repeat (first | refine blk_drewN ?_ _ | refine blk_drew ?_ | refine blk_alloc ?_ _)); exact BK235.out⟩, ⟨by (try simp only [hl254000_53]); (with_reducible repeat (first | refine blk_drewN ?_ _ | refine blk_drew ?_ | refine blk_alloc ?_ _)); exact BK253.out⟩, ⟨by repeat (first | (with_reducible first | exact HB.out | apply below_alloc | apply pw_below_drewN | apply below_drew1 | refine below_set ?_ GE235.out | refine below_set ?_ GE253.out) | exact HB.out)⟩⟩
                            · replace c94 := Bool.eq_false_iff.mpr c94
                              subst c94
                              have H1 : (laws_FnExactFastRepeats.j2 kj53 t277 t276 true) = some r := by rw [if_neg (show ¬ (false = true) by decide)] at H; exact H
                              clear H
                              have H := H1
                              clear H1
                              have H' := Aside0.mk H
                              clear H
                              obtain ⟨Ao97, co97, eo97⟩ := Kd.S_slice HO288.out
                              subst eo97
                              obtain ⟨Ao98, co98, eo98⟩ := Kd.S_slice HO_6.out
                              subst eo98
                              go_wp2_with (first | ((with_reducible refine gate_callee (f := 47) rfl ?_); refine goesL_ (some 104) rfl rfl Try.func47 (by kernel_rfl) rfl #[.slice Ao97 t286.length co97, .slice Ao98 t245.length co98] rfl (by (try simp only [List.map_toArray, List.map_cons, List.map_nil]); first | done | rfl | (simp only [List.length_drop, List.length_take]; rfl)) ?_; (with_reducible refine (laws_eqIntSS.calls kj53 _ _ t286 _ _ t245 false _ ?side1 ?side2 ?side3 ?side4 A93.out).mono ?_); (case side1 => repeat (first | exact (Kd.S_reads' HO288.out).2.2 | (with_reducible refine Kd.C_alloc ?_ _) | (with_reducible refine Kd.C_drewN ?_ _) | (with_reducible refine Kd.C_drew ?_))); (case side2 => exact (Kd.S_reads' HO288.out).2.1); (case side3 => repeat (first | exact (Kd.S_reads' HO_6.out).2.2 | (with_reducible refine Kd.C_alloc ?_ _) | (with_reducible refine Kd.C_drewN ?_ _) | (with_reducible refine Kd.C_drew ?_))); (case side4 => exact (Kd.S_reads' HO_6.out).2.1); rintro e w' ⟨rfl, ⟨nd, rfl⟩⟩; refine ⟨_, rfl, ?_⟩))
                              go_meet
                              case rel => exact ⟨_, (true), (by first | rfl | (simp; done) | (simp [*]; done)), H', ⟨by have := HJ18.out; have := HJ53.out; first | omega | exact Nat.le_refl _⟩, ⟨by (try simp only [hl254000_53]); (with_reducible repeat (first | apply Kd.S_alloc | apply Kd.S_drewN | apply Kd.S_drew)); exact Kd.S_mono HO_10.out (fun _ hk => hk.1.1.2)⟩, ⟨by (try simp only [hl254000_53]); (with_reducible repeat (first | apply Kd.R_alloc | apply Kd.R_drewN | apply Kd.R_drew)); exact Kd.R_mono HO_254000.out (fun _ hk => trivial)⟩, ⟨by (try simp only [hl254000_53]); (with_reducible repeat (first | refine blk_drewN ?_ _ | refine blk_drew ?_ | refine blk_alloc ?_ _)); exact BK235.out⟩, ⟨by (try simp only [hl254000_53]); (with_reducible repeat (first | refine blk_drewN ?_ _ | refine blk_drew ?_ | refine blk_alloc ?_ _)); exact BK253.out⟩, ⟨by repeat (first | (with_reducible first | exact HB.out | apply below_alloc | apply pw_below_drewN | apply below_drew1 | refine below_set ?_ GE235.out | refine below_set ?_ GE253.out) | exact HB.out)⟩⟩
                          case rest =>
                            clear HC83
                            try clear c1
                            try clear p2
                            try clear c3
                            try clear c4
                            try clear c4b0
                            try clear c5
                            try clear c6
                            try clear c7
                            try clear c8
                            try clear c9
                            try clear c9b0
                            try clear c13
                            try clear c15
                            try clear c17
                            try clear c18
                            try clear c33
                            try clear c35
                            try clear c37
                            try clear c39
                            try clear c40
                            try clear c42
                            try clear c45
                            try clear c46
                            try clear c47
                            try clear c48
                            try clear c49
                            try clear c51
                            try clear c62
                            try clear c66
                            try clear c66b0
                            try clear c68
                            try clear c73
                            try clear c76
                            try clear c76b0
                            try clear c79
                            try clear c79b0
                            try clear c79b1
                            try clear c86
                            try clear c94
                            try clear hcz11_0
                            try clear hcz11_1
                            try clear hcz21_0
                            try clear hcz21_1
                            try clear hcz23_0
                            try clear hcz23_1
                            try clear hcz29_0
                            try clear hcz29_1
                            try clear hcz34_0
                            try clear hcz34_1
                            try clear hcz36_0
                            try clear hcz36_1
                            try clear hcz63_0
                            try clear hcz63_1
                            try clear hcz6_0
                            try clear hcz6_1
                            try clear hcz87_0
                            try clear hcz87_1
                            try clear hfz11_0
                            try clear hfz11_1
                            try clear hfz21_0
                            try clear hfz21_1
                            try clear hfz23_0
                            try clear hfz23_1
                            try clear hfz29_0
                            try clear hfz29_1
                            try clear hfz34_0
                            try clear hfz34_1
                            try clear hfz36_0
                            try clear hfz36_1
                            try clear hfz63_0
                            try clear hfz63_1
                            try clear hfz6_0
                            try clear hfz6_1
                            try clear hfz87_0
                            try clear hfz87_1
                            try clear p2
                            obtain ⟨kq, x110_82, rfl, HA, HJ82, HO_10, HO_254000, BK235, BK253, HB⟩ := hcut
                            have hl10_82 := (Kd.S_reads' HO_10.out).1
                            rw [hl10_82] at HO_10
                            (try simp only [hl10_82])
                            (try simp only [hl10_82] at BK235)
                            (try simp only [hl10_82] at BK253)
                            (try simp only [hl10_82] at HO_254000)
                            cases kq with
                            | zero => exact absurd HA.out (by simp [laws_FnExactFastRepeats.j2])
                            | succ kj82 =>
                              have H := HA.out
                              clear HA
                              simp only [laws_FnExactFastRepeats.j2] at H
                              by_cases c99 : x110_82 = true
                              · subst c99
                                have H1 : (some false) = some r := by rw [if_pos rfl] at H; exact H
                                clear H
                                have H := H1
                                clear H1
                                obtain rfl := Option.some.inj H
                                go_wp2
                                go_ret
                                exact ⟨by first | rfl | (simp [errW_none, errW_some] <;> rfl) | (simp [*, errW_none, errW_some] <;> rfl), by repeat (first | (with_reducible first | exact HB.out | apply below_alloc | apply pw_below_drewN | apply below_drew1 | refine below_set ?_ GE235.out | refine below_set ?_ GE253.out) | exact HB.out)⟩
                              · replace c99 := Bool.eq_false_iff.mpr c99
                                subst c99
                                have H1 : ((laws_heldIntSS.f kj82 t277 1).bind fun t291 => (if t291 < 0 then (some false) else (if t291 = t276 then (some true) else (some false)))) = some r := by rw [if_neg (show ¬ (false = true) by decide)] at H; exact H
                                clear H
                                have H := H1
                                clear H1
                                replace H := Option.bind_eq_some_iff.mp H
                                obtain ⟨t291, A1000, H⟩ := H
                                replace H : (if t291 < 0 then (some false) else (if t291 = t276 then (some true) else (some false))) = some r := H
                                have A100 := Aside0.mk A1000
                                clear A1000
                                by_cases c101 : t291 < 0
                                · rw [if_pos c101] at H
                                  have c101b0 : decide (t291 < 0) = true := decide_eq_true c101
                                  clear c101
                                  obtain rfl := Option.some.inj H
                                  go_wp2_with (first | ((with_reducible refine gate_callee (f := 49) rfl ?_); refine goesL_ (some 113) rfl rfl Try.func49 (by kernel_rfl) rfl #[.slice Ao84 t277.length co84, .int .i64 1] rfl (by (try simp only [List.map_toArray, List.map_cons, List.map_nil]); first | done | rfl | (simp only [List.length_drop, List.length_take]; rfl)) ?_; (with_reducible refine (laws_heldIntSS.calls kj82 _ _ t277 1 t291 _ ?side1 ?side2 A100.out).mono ?_); (case side1 => repeat (first | exact (Kd.S_reads' HO_10.out).2.2 | (with_reducible refine Kd.C_alloc ?_ _) | (with_reducible refine Kd.C_drewN ?_ _) | (with_reducible refine Kd.C_drew ?_))); (case side2 => exact (Kd.S_reads' HO_10.out).2.1); rintro e w' ⟨rfl, ⟨nd, rfl⟩⟩; refine ⟨_, rfl, ?_⟩))
                                  go_ret
                                  exact ⟨by first | rfl | (simp [errW_none, errW_some] <;> rfl) | (simp [*, errW_none, errW_some] <;> rfl), by repeat (first | (with_reducible first | exact HB.out | apply below_alloc | apply pw_below_drewN | apply below_drew1 | refine below_set ?_ GE235.out | refine below_set ?_ GE253.out) | exact HB.out)⟩
                                · rw [if_neg c101] at H
                                  have c101b0 : decide (t291 < 0) = false := decide_eq_false c101
                                  clear c101
                                  by_cases c102 : t291 = t276
                                  · rw [if_pos c102] at H
                                    have c102b0 : (t291 == t276) = true := beq_iff_eq.mpr c102
                                    have c102b1 : (t291 != t276) = false := bne_eq_false_iff_eq.mpr c102
                                    clear c102
                                    obtain rfl := Option.some.inj H
                                    go_wp2_with (first | ((with_reducible refine gate_callee (f := 49) rfl ?_); refine goesL_ (some 113) rfl rfl Try.func49 (by kernel_rfl) rfl #[.slice Ao84 t277.length co84, .int .i64 1] rfl (by (try simp only [List.map_toArray, List.map_cons, List.map_nil]); first | done | rfl | (simp only [List.length_drop, List.length_take]; rfl)) ?_; (with_reducible refine (laws_heldIntSS.calls kj82 _ _ t277 1 t291 _ ?side1 ?side2 A100.out).mono ?_); (case side1 => repeat (first | exact (Kd.S_reads' HO_10.out).2.2 | (with_reducible refine Kd.C_alloc ?_ _) | (with_reducible refine Kd.C_drewN ?_ _) | (with_reducible refine Kd.C_drew ?_))); (case side2 => exact (Kd.S_reads' HO_10.out).2.1); rintro e w' ⟨rfl, ⟨nd, rfl⟩⟩; refine ⟨_, rfl, ?_⟩))
                                    go_ret
                                    exact ⟨by first | rfl | (simp [errW_none, errW_some] <;> rfl) | (simp [*, errW_none, errW_some] <;> rfl), by repeat (first | (with_reducible first | exact HB.out | apply below_alloc | apply pw_below_drewN | apply below_drew1 | refine below_set ?_ GE235.out | refine below_set ?_ GE253.out) | exact HB.out)⟩
                                  · rw [if_neg c102] at H
                                    have c102b0 : (t291 == t276) = false := beq_eq_false_iff_ne.mpr c102
                                    have c102b1 : (t291 != t276) = true := bne_iff_ne.mpr c102
                                    obtain rfl := Option.some.inj H
                                    go_wp2_with (first | ((with_reducible refine gate_callee (f := 49) rfl ?_); refine goesL_ (some 113) rfl rfl Try.func49 (by kernel_rfl) rfl #[.slice Ao84 t277.length co84, .int .i64 1] rfl (by (try simp only [List.map_toArray, List.map_cons, List.map_nil]); first | done | rfl | (simp only [List.length_drop, List.length_take]; rfl)) ?_; (with_reducible refine (laws_heldIntSS.calls kj82 _ _ t277 1 t291 _ ?side1 ?side2 A100.out).mono ?_); (case side1 => repeat (first | exact (Kd.S_reads' HO_10.out).2.2 | (with_reducible refine Kd.C_alloc ?_ _) | (with_reducible refine Kd.C_drewN ?_ _) | (with_reducible refine Kd.C_drew ?_))); (case side2 => exact (Kd.S_reads' HO_10.out).2.1); rintro e w' ⟨rfl, ⟨nd, rfl⟩⟩; refine ⟨_, rfl, ?_⟩))
                                    go_ret
                                    exact ⟨by first | rfl | (simp [errW_none, errW_some] <;> rfl) | (simp [*, errW_none, errW_some] <;> rfl), by repeat (first | (with_reducible first | exact HB.out | apply below_alloc | apply pw_below_drewN | apply below_drew1 | refine below_set ?_ GE235.out | refine below_set ?_ GE253.out) | exact HB.out)⟩
                        · rw [if_neg c79] at H
                          have c79b0 : (t278 == t276) = false := beq_eq_false_iff_ne.mpr c79
                          have c79b1 : (t278 != t276) = true := bne_iff_ne.mpr c79
                          obtain rfl := Option.some.inj H
                          obtain ⟨Ao103, co103, eo103⟩ := Kd.S_slice HO_10.out
                          subst eo103
                          go_wp2_with (first | ((with_reducible refine gate_callee (f := 48) rfl ?_); refine goesL_ (some 85) rfl rfl Try.func48 (by kernel_rfl) rfl #[.slice Ao103 t257.length co103, .int .i64 1] rfl (by (try simp only [List.map_toArray, List.map_cons, List.map_nil]); first | done | rfl | (simp only [List.length_drop, List.length_take]; rfl)) ?_; (with_reducible refine (laws_markIntSS.calls kj53 (fun k_ => BB ≤ k_) (.slice Ao103 t257.length co103) t257 1 t276 t277 w _ ?side1 ?side2 A74.out).mono ?_); (case side1 => repeat (first | (with_reducible first | exact HB.out | apply below_alloc | apply pw_below_drewN | apply below_drew1 | refine below_set ?_ GE235.out | refine below_set ?_ GE253.out) | exact HB.out)); (case side2 => exact Kd.S_mono HO_10.out (fun _ hk_ => hk_.2)); rintro e w104 ⟨rfl, hy0, hb, hkp⟩; refine ⟨_, rfl, ?_⟩; have n0_ := Aside0.mk (Kd.S_mono (ok' := fun k_ => some k_ ≠ (.slice Ao103 t257.length co103 : Value).ownBlock ∧ some k_ ≠ (.slice Ao32 t272.length co32 : Value).ownBlock) (Kd.S_keptB (HO_6.out) hkp (fun k_ hk_ hs_ => absurd hs_ (Nat.not_le_of_lt hk_.2))) (fun k_ hk_ => by (repeat' refine And.intro ?_ ?_) <;> first | exact hk_ | exact hk_.2 | exact hk_.2.1 | exact hk_.2.2.1 | exact hk_.2.2.2 | exact hk_.1 | exact hk_.1.2 | exact hk_.1.2.1 | exact hk_.1.2.2.1 | exact hk_.1.2.2.2 | exact hk_.1.1 | exact hk_.1.1.2 | exact hk_.1.1.2.1 | exact hk_.1.1.2.2.1 | exact hk_.1.1.2.2.2 | exact hk_.1.1.1 | exact hk_.1.1.1.2 | exact hk_.1.1.1.2.1 | exact hk_.1.1.1.2.2.1 | exact hk_.1.1.1.2.2.2 | exact hk_.1.1.1.1)); have n1_ := Aside0.mk (Kd.S_mono (ok' := fun k_ => some k_ ≠ (v246 : Value).ownBlock ∧ some k_ ≠ (.slice Ao32 t272.length co32 : Value).ownBlock) hy0 (fun k_ hk_ => ⟨fun e_ => by have h1_ := ((Kd.S_R HO_6.out).1 k_ e_.symm).2; have h2_ := Kd.S_lt HO_6.out k_ e_.symm; omega, fun e_ => by have h1_ := HO_254000.out.1 k_ e_.symm; have h2_ := Kd.R_lt HO_254000.out k_ e_.symm; omega⟩)); have n2_ := Aside0.mk (Kd.R_mono (ok' := fun k_ => True) (Kd.R_keptB (HO_254000.out) hkp (fun k_ hk_ hs_ => absurd hs_ (Nat.not_le_of_lt hk_))) (fun k_ hk_ => trivial)); have n3_ := Aside0.mk (blk_kept (by (with_reducible repeat (first | refine blk_drewN ?_ _ | refine blk_drew ?_ | refine blk_alloc ?_ _)); exact BK235.out) hkp (fun hs_ => absurd hs_ (Nat.not_le_of_lt HBB235.out))); have n4_ := Aside0.mk (blk_kept (by (with_reducible repeat (first | refine blk_drewN ?_ _ | refine blk_drew ?_ | refine blk_alloc ?_ _)); exact BK253.out) hkp (fun hs_ => absurd hs_ (Nat.not_le_of_lt HBB253.out))); have n5_ := Aside0.mk (hb); clear HO_6 HO_10 HO_254000 BK235 BK253 HB; have HO_6 := n0_; have HO_10 := n1_; have HO_254000 := n2_; have BK235 := n3_; have BK253 := n4_; have HB := n5_; clear n0_ n1_ n2_ n3_ n4_ n5_; (try clear hb); (try clear hkp); (try clear hy0)) | ((with_reducible refine gate_callee (f := 49) rfl ?_); refine goesL_ (some 88) rfl rfl Try.func49 (by kernel_rfl) rfl #[.slice Ao103 t277.length co103, .int .i64 1] rfl (by (try simp only [List.map_toArray, List.map_cons, List.map_nil]); first | done | (rw [show t277.length = t257.length from (Kd.S_reads' HO_10.out).1.symm] <;> rfl) | rfl | (simp only [List.length_drop, List.length_take]; rfl)) ?_; (with_reducible refine (laws_heldIntSS.calls kj53 _ _ t277 1 t278 _ ?side1 ?side2 A75.out).mono ?_); (case side1 => repeat (first | exact (Kd.S_reads' HO_10.out).2.2 | (with_reducible refine Kd.C_alloc ?_ _) | (with_reducible refine Kd.C_drewN ?_ _) | (with_reducible refine Kd.C_drew ?_))); (case side2 => rw [show t277.length = t257.length from (Kd.S_reads' HO_10.out).1.symm]; exact (Kd.S_reads' HO_10.out).2.1); rintro e w' ⟨rfl, ⟨nd, rfl⟩⟩; refine ⟨_, rfl, ?_⟩))
                          go_ret
                          exact ⟨by first | rfl | (simp [errW_none, errW_some] <;> rfl) | (simp [*, errW_none, errW_some] <;> rfl), by repeat (first | (with_reducible first | exact HB.out | apply below_alloc | apply pw_below_drewN | apply below_drew1 | refine below_set ?_ GE235.out | refine below_set ?_ GE253.out) | exact HB.out)⟩
              · replace c51 := Bool.eq_false_iff.mpr c51
                subst c51
                have H1 : (some false) = some r := by rw [if_neg (show ¬ (false = true) by decide)] at H; exact H
                clear H
                have H := H1
                clear H1
                obtain rfl := Option.some.inj H
                try go_wp2
                have n0_ := Aside0.mk (Kd.S_drew HO_6.out)
                have n1_ := Aside0.mk (Kd.R_drew HO_9.out)
                have n2_ := Aside0.mk (Kd.S_drew HO_10.out)
                have n3_ := Aside0.mk (Kd.R_drew HO_254000.out)
                have n4_ := Aside0.mk (blk_drew BK235.out)
                have n5_ := Aside0.mk (blk_drew BK253.out)
                have n6_ := Aside0.mk (below_drew1 HB.out)
                clear HO_6
                clear HO_9
                clear HO_10
                clear HO_254000
                clear BK235
                clear BK253
                clear HB
                have HO_6 := n0_
                have HO_9 := n1_
                have HO_10 := n2_
                have HO_254000 := n3_
                have BK235 := n4_
                have BK253 := n5_
                have HB := n6_
                clear n0_ n1_ n2_ n3_ n4_ n5_ n6_
                refine start_ (n := 5) (S := fun w' => w'.cell? ⟨gb253, 0, none⟩ = some (.slice Ao32 t249.length co32) ∧ w'.cell? ⟨gb253, 1, none⟩ = some (.int .i64 t252) ∧ w'.cell? ⟨gb235, 0, none⟩ = some (.slice A0_0 l0_0.length c0_0) ∧ w'.cell? ⟨gb235, 1, none⟩ = some (.int .i64 a0_1)) (ds := []) #[false, false, false, false, false] (by kernel_rfl) rfl rfl ⟨(blk_cell BK253.out 0).trans rfl, (blk_cell BK253.out 1).trans rfl, (blk_cell BK235.out 0).trans rfl, (blk_cell BK235.out 1).trans rfl⟩ (fun hHeld => ?_)
                generalize wc.drew = w105 at HO_6 HO_9 HO_10 HO_254000 BK235 BK253 HB hHeld ⊢
                refine take_ (i := 0) (N := some 54) (v := ?_) (a' := ?_) #[true, false, false, false, false] rfl rfl (by kernel_rfl) (fun _ _ _ h => h) (Or.inl ⟨by rfl, ?_⟩) hHeld ?_ ?_
                rotate_left
                · rintro w' ⟨s0, s1, s2, s3⟩
                  go_simp
                  with_reducible rfl
                rotate_left
                · simp only [Act.put, List.setIfInBounds_toArray, List.set_cons_zero, List.set_cons_succ, i64_w, i32_w]
                  rfl
                refine take_ (i := 1) (N := some 55) (v := ?_) (a' := ?_) #[true, true, false, false, false] rfl rfl (by kernel_rfl) (fun _ _ _ h => h) (Or.inl ⟨by rfl, ?_⟩) hHeld ?_ ?_
                rotate_left
                · rintro w' ⟨s0, s1, s2, s3⟩
                  go_simp
                  with_reducible rfl
                rotate_left
                · simp only [Act.put, List.setIfInBounds_toArray, List.set_cons_zero, List.set_cons_succ, i64_w, i32_w]
                  rfl
                refine one_ (i := 2) (N := some 56) #[true, true, true, false, false] rfl rfl (by kernel_rfl) (by decide) (fun K hK => ?_)
                refine goes_ Try.func37 (by kernel_rfl) rfl #[.agg #[.slice A0_0 l0_0.length c0_0, .int .i64 a0_1]] (by rfl) rfl rfl (by (try simp only [List.map_toArray, List.map_cons, List.map_nil]); first | done | rfl | (simp only [List.length_drop, List.length_take]; rfl)) ?_
                with_reducible refine (laws_toInstrument.calls kj18 _ _ l0_0 a0_1 t262 t265 _ ?side1 ?side2 A46.out).mono ?_
                (case side1 => repeat (first | exact (Kd.C_below HR0_0.out HB.out) | (with_reducible refine Kd.C_alloc ?_ _) | (with_reducible refine Kd.C_drewN ?_ _) | (with_reducible refine Kd.C_drew ?_)))
                (case side2 => exact HC0_0.out)
                rintro e w106 ⟨v263, rfl, ho0, hb⟩
                refine ⟨_, rfl, ?_⟩
                have n0_ := Aside0.mk (Kd.S_elder' (by (with_reducible repeat (first | apply Kd.S_alloc | apply Kd.S_drewN | apply Kd.S_drew)); exact HO_6.out) (Kd.R_base ho0) hb)
                have n1_ := Aside0.mk (Kd.R_below (by (with_reducible repeat (first | apply Kd.R_alloc | apply Kd.R_drewN | apply Kd.R_drew)); exact HO_9.out) hb)
                have n2_ := Aside0.mk (Kd.S_elder' (by (with_reducible repeat (first | apply Kd.S_alloc | apply Kd.S_drewN | apply Kd.S_drew)); exact HO_10.out) (Kd.R_base ho0) hb)
                have n3_ := Aside0.mk (Kd.R_elder' (by (with_reducible repeat (first | apply Kd.R_alloc | apply Kd.R_drewN | apply Kd.R_drew)); exact HO_254000.out) (Kd.R_base ho0) hb)
                have n4_ := Aside0.mk (Kd.R_lower (Kd.R_new' ho0 (Kd.R_lt (by (with_reducible repeat (first | apply Kd.R_alloc | apply Kd.R_drewN | apply Kd.R_drew)); exact HO_254000.out))) (below_size (by repeat (first | (with_reducible first | exact HB.out | apply below_alloc | apply pw_below_drewN | apply below_drew1 | refine below_set ?_ GE235.out | refine below_set ?_ GE253.out) | exact HB.out))))
                have n5_ := Aside0.mk (blk_below (g := gb235) (o := .cells #[.slice A0_0 l0_0.length c0_0, .int .i64 a0_1] 55 (0, 0)) (by (with_reducible repeat (first | refine blk_drewN ?_ _ | refine blk_drew ?_ | refine blk_alloc ?_ _)); exact BK235.out) hb)
                have n6_ := Aside0.mk (blk_below (g := gb253) (o := .cells #[.slice Ao32 t249.length co32, .int .i64 t252] 59 (0, 0)) (by (with_reducible repeat (first | refine blk_drewN ?_ _ | refine blk_drew ?_ | refine blk_alloc ?_ _)); exact BK253.out) hb)
                have n7_ := Aside0.mk (below_step (by repeat (first | (with_reducible first | exact HB.out | apply below_alloc | apply pw_below_drewN | apply below_drew1 | refine below_set ?_ GE235.out | refine below_set ?_ GE253.out) | exact HB.out)) hb)
                clear HO_6
                clear HO_9
                clear HO_10
                clear HO_254000
                clear BK235
                clear BK253
                clear HB
                have HO_6 := n0_
                have HO_9 := n1_
                have HO_10 := n2_
                have HO_254000 := n3_
                have HO264 := n4_
                have BK235 := n5_
                have BK253 := n6_
                have HB := n7_
                clear n0_ n1_ n2_ n3_ n4_ n5_ n6_ n7_
                (try clear hb)
                (try clear hb2)
                (try clear hk)
                (try clear hi)
                (try clear ho0)
                obtain ⟨Ao107, co107, eo107⟩ := Kd.R_slice HO264.out
                (first | subst eo107 | (injection eo107 with f1_ f2_ f3_; have f4_ := f1_.symm; have f5_ := f3_.symm; clear f1_ f2_ f3_; subst f4_; subst f5_))
                refine hK.out _ _ ⟨(blk_cell BK253.out 0).trans rfl, (blk_cell BK253.out 1).trans rfl, (blk_cell BK235.out 0).trans rfl, (blk_cell BK235.out 1).trans rfl⟩ (fun hHeld => ?_)
                clear hK K
                refine norm_ (a' := ?_) ?_ ?_
                rotate_left
                · show Act.put _ (some 56) _ = _
                  simp only [Act.put, List.setIfInBounds_toArray, List.set_cons_zero, List.set_cons_succ, i64_w, i32_w]
                  rfl
                refine one_ (i := 3) (N := some 57) #[true, true, true, true, false] rfl rfl (by kernel_rfl) (by decide) (fun K hK => ?_)
                refine goes_ Try.func39 (by kernel_rfl) rfl #[.agg #[.slice Ao32 t249.length co32, .int .i64 t252], .agg #[.slice Ao107 t262.length co107, .int .i64 t265]] (by rfl) rfl rfl (by (try simp only [List.map_toArray, List.map_cons, List.map_nil]); first | done | rfl | (simp only [List.length_drop, List.length_take]; rfl)) ?_
                with_reducible refine (laws_eqInstrument.calls kj18 _ _ t249 t252 _ _ t262 t265 true _ ?side1 ?side2 ?side3 ?side4 A47.out).mono ?_
                (case side1 => repeat (first | exact (Kd.R_reads' HO_254000.out).2.2 | (with_reducible refine Kd.C_alloc ?_ _) | (with_reducible refine Kd.C_drewN ?_ _) | (with_reducible refine Kd.C_drew ?_)))
                (case side2 => exact (Kd.R_reads' HO_254000.out).2.1)
                (case side3 => repeat (first | exact (Kd.R_reads' HO264.out).2.2 | (with_reducible refine Kd.C_alloc ?_ _) | (with_reducible refine Kd.C_drewN ?_ _) | (with_reducible refine Kd.C_drew ?_)))
                (case side4 => exact (Kd.R_reads' HO264.out).2.1)
                rintro e w108 ⟨rfl, hb⟩
                refine ⟨_, rfl, ?_⟩
                have n0_ := Aside0.mk (Kd.S_below (by (with_reducible repeat (first | apply Kd.S_alloc | apply Kd.S_drewN | apply Kd.S_drew)); exact HO_6.out) hb)
                have n1_ := Aside0.mk (Kd.R_below (by (with_reducible repeat (first | apply Kd.R_alloc | apply Kd.R_drewN | apply Kd.R_drew)); exact HO_9.out) hb)
                have n2_ := Aside0.mk (Kd.S_below (by (with_reducible repeat (first | apply Kd.S_alloc | apply Kd.S_drewN | apply Kd.S_drew)); exact HO_10.out) hb)
                have n3_ := Aside0.mk (Kd.R_below (by (with_reducible repeat (first | apply Kd.R_alloc | apply Kd.R_drewN | apply Kd.R_drew)); exact HO_254000.out) hb)
                have n4_ := Aside0.mk (Kd.R_below (by (with_reducible repeat (first | apply Kd.R_alloc | apply Kd.R_drewN | apply Kd.R_drew)); exact HO264.out) hb)
                have n5_ := Aside0.mk (blk_below (g := gb235) (o := .cells #[.slice A0_0 l0_0.length c0_0, .int .i64 a0_1] 55 (0, 0)) (by (with_reducible repeat (first | refine blk_drewN ?_ _ | refine blk_drew ?_ | refine blk_alloc ?_ _)); exact BK235.out) hb)
                have n6_ := Aside0.mk (blk_below (g := gb253) (o := .cells #[.slice Ao32 t249.length co32, .int .i64 t252] 59 (0, 0)) (by (with_reducible repeat (first | refine blk_drewN ?_ _ | refine blk_drew ?_ | refine blk_alloc ?_ _)); exact BK253.out) hb)
                have n7_ := Aside0.mk (below_step (by repeat (first | (with_reducible first | exact HB.out | apply below_alloc | apply pw_below_drewN | apply below_drew1 | refine below_set ?_ GE235.out | refine below_set ?_ GE253.out) | exact HB.out)) hb)
                clear HO_6
                clear HO_9
                clear HO_10
                clear HO_254000
                clear HO264
                clear BK235
                clear BK253
                clear HB
                have HO_6 := n0_
                have HO_9 := n1_
                have HO_10 := n2_
                have HO_254000 := n3_
                have HO264 := n4_
                have BK235 := n5_
                have BK253 := n6_
                have HB := n7_
                clear n0_ n1_ n2_ n3_ n4_ n5_ n6_ n7_
                (try clear hb)
                (try clear hb2)
                (try clear hk)
                (try clear hi)
                refine hK.out _ _ ⟨(blk_cell BK253.out 0).trans rfl, (blk_cell BK253.out 1).trans rfl, (blk_cell BK235.out 0).trans rfl, (blk_cell BK235.out 1).trans rfl⟩ (fun hHeld => ?_)
                clear hK K
                refine norm_ (a' := ?_) ?_ ?_
                rotate_left
                · show Act.put _ (some 57) _ = _
                  simp only [Act.put, List.setIfInBounds_toArray, List.set_cons_zero, List.set_cons_succ, i64_w, i32_w]
                  rfl
                refine pure_ (i := 4) (N := some 58) (v := ?_) (a' := ?_) #[true, true, true, true, true] rfl rfl (by kernel_rfl) (fun _ _ _ h => h) (Or.inl ⟨by rfl, ?_⟩) ?_ ?_
                rotate_left
                · intro w'
                  go_simp
                  with_reducible rfl
                rotate_left
                · simp only [Act.put, List.setIfInBounds_toArray, List.set_cons_zero, List.set_cons_succ, i64_w, i32_w]
                  rfl
                refine done_ (by kernel_rfl) ?_
                try go_wp2_with (first | ((with_reducible refine gate_callee (f := 15) rfl ?_); refine goesL_ (some 61) rfl rfl Try.func15 (by kernel_rfl) rfl #[.slice A1 l1.length c1] rfl (by (try simp only [List.map_toArray, List.map_cons, List.map_nil]); first | done | rfl | (simp only [List.length_drop, List.length_take]; rfl)) ?_; (with_reducible refine (laws_toNoteS.calls kj18 _ _ l1 t267 _ ?side1 ?side2 A49.out).mono ?_); (case side1 => repeat (first | exact (Kd.C_below HR1.out HB.out) | (with_reducible refine Kd.C_alloc ?_ _) | (with_reducible refine Kd.C_drewN ?_ _) | (with_reducible refine Kd.C_drew ?_))); (case side2 => exact HC1.out); rintro e w109 ⟨v268, rfl, ho0, hb⟩; refine ⟨_, rfl, ?_⟩; have n0_ := Aside0.mk (Kd.S_below (by (with_reducible repeat (first | apply Kd.S_alloc | apply Kd.S_drewN | apply Kd.S_drew)); exact HO_6.out) hb); have n1_ := Aside0.mk (Kd.R_elder' (by (with_reducible repeat (first | apply Kd.R_alloc | apply Kd.R_drewN | apply Kd.R_drew)); exact HO_9.out) (Kd.R_base ho0) hb); have n2_ := Aside0.mk (Kd.S_below (by (with_reducible repeat (first | apply Kd.S_alloc | apply Kd.S_drewN | apply Kd.S_drew)); exact HO_10.out) hb); have n3_ := Aside0.mk (Kd.R_below (by (with_reducible repeat (first | apply Kd.R_alloc | apply Kd.R_drewN | apply Kd.R_drew)); exact HO_254000.out) hb); have n4_ := Aside0.mk (Kd.R_below (by (with_reducible repeat (first | apply Kd.R_alloc | apply Kd.R_drewN | apply Kd.R_drew)); exact HO264.out) hb); have n5_ := Aside0.mk (Kd.R_lower (Kd.R_new' ho0 (Kd.R_lt (by (with_reducible repeat (first | apply Kd.R_alloc | apply Kd.R_drewN | apply Kd.R_drew)); exact HO_9.out))) (below_size (by repeat (first | (with_reducible first | exact HB.out | apply below_alloc | apply pw_below_drewN | apply below_drew1 | refine below_set ?_ GE235.out | refine below_set ?_ GE253.out) | exact HB.out)))); have n6_ := Aside0.mk (blk_below (g := gb235) (o := .cells #[.slice A0_0 l0_0.length c0_0, .int .i64 a0_1] 55 (0, 0)) (by (with_reducible repeat (first | refine blk_drewN ?_ _ | refine blk_drew ?_ | refine blk_alloc ?_ _)); exact BK235.out) hb); have n7_ := Aside0.mk (blk_below (g := gb253) (o := .cells #[.slice Ao32 t249.length co32, .int .i64 t252] 59 (0, 0)) (by (with_reducible repeat (first | refine blk_drewN ?_ _ | refine blk_drew ?_ | refine blk_alloc ?_ _)); exact BK253.out) hb); have n8_ := Aside0.mk (below_step (by repeat (first | (with_reducible first | exact HB.out | apply below_alloc | apply pw_below_drewN | apply below_drew1 | refine below_set ?_ GE235.out | refine below_set ?_ GE253.out) | exact HB.out)) hb); clear HO_6 HO_9 HO_10 HO_254000 HO264 BK235 BK253 HB; have HO_6 := n0_; have HO_9 := n1_; have HO_10 := n2_; have HO_254000 := n3_; have HO264 := n4_; have HO269 := n5_; have BK235 := n6_; have BK253 := n7_; have HB := n8_; clear n0_ n1_ n2_ n3_ n4_ n5_ n6_ n7_ n8_; (try clear hb); (try clear hb2); (try clear hk); (try clear hi); (try clear ho0); obtain ⟨Ao110, co110, eo110⟩ := Kd.R_slice HO269.out; subst eo110) | ((with_reducible refine gate_callee (f := 17) rfl ?_); refine goesL_ (some 62) rfl rfl Try.func17 (by kernel_rfl) rfl #[.slice Ao37 t254.length co37, .slice Ao110 t267.length co110] rfl (by (try simp only [List.map_toArray, List.map_cons, List.map_nil]); first | done | rfl | (simp only [List.length_drop, List.length_take]; rfl)) ?_; (with_reducible refine (laws_eqNoteS.calls kj18 _ _ t254 _ _ t267 false _ ?side1 ?side2 ?side3 ?side4 A50.out).mono ?_); (case side1 => repeat (first | exact (Kd.R_reads' HO_9.out).2.2 | (with_reducible refine Kd.C_alloc ?_ _) | (with_reducible refine Kd.C_drewN ?_ _) | (with_reducible refine Kd.C_drew ?_))); (case side2 => exact (Kd.R_reads' HO_9.out).2.1); (case side3 => repeat (first | exact (Kd.R_reads' HO269.out).2.2 | (with_reducible refine Kd.C_alloc ?_ _) | (with_reducible refine Kd.C_drewN ?_ _) | (with_reducible refine Kd.C_drew ?_))); (case side4 => exact (Kd.R_reads' HO269.out).2.1); rintro e w111 ⟨rfl, hb⟩; refine ⟨_, rfl, ?_⟩; have n0_ := Aside0.mk (Kd.S_below (by (with_reducible repeat (first | apply Kd.S_alloc | apply Kd.S_drewN | apply Kd.S_drew)); exact HO_6.out) hb); have n1_ := Aside0.mk (Kd.R_below (by (with_reducible repeat (first | apply Kd.R_alloc | apply Kd.R_drewN | apply Kd.R_drew)); exact HO_9.out) hb); have n2_ := Aside0.mk (Kd.S_below (by (with_reducible repeat (first | apply Kd.S_alloc | apply Kd.S_drewN | apply Kd.S_drew)); exact HO_10.out) hb); have n3_ := Aside0.mk (Kd.R_below (by (with_reducible repeat (first | apply Kd.R_alloc | apply Kd.R_drewN | apply Kd.R_drew)); exact HO_254000.out) hb); have n4_ := Aside0.mk (Kd.R_below (by (with_reducible repeat (first | apply Kd.R_alloc | apply Kd.R_drewN | apply Kd.R_drew)); exact HO264.out) hb); have n5_ := Aside0.mk (Kd.R_below (by (with_reducible repeat (first | apply Kd.R_alloc | apply Kd.R_drewN | apply Kd.R_drew)); exact HO269.out) hb); have n6_ := Aside0.mk (blk_below (g := gb235) (o := .cells #[.slice A0_0 l0_0.length c0_0, .int .i64 a0_1] 55 (0, 0)) (by (with_reducible repeat (first | refine blk_drewN ?_ _ | refine blk_drew ?_ | refine blk_alloc ?_ _)); exact BK235.out) hb); have n7_ := Aside0.mk (blk_below (g := gb253) (o := .cells #[.slice Ao32 t249.length co32, .int .i64 t252] 59 (0, 0)) (by (with_reducible repeat (first | refine blk_drewN ?_ _ | refine blk_drew ?_ | refine blk_alloc ?_ _)); exact BK253.out) hb); have n8_ := Aside0.mk (below_step (by repeat (first | (with_reducible first | exact HB.out | apply below_alloc | apply pw_below_drewN | apply below_drew1 | refine below_set ?_ GE235.out | refine below_set ?_ GE253.out) | exact HB.out)) hb); clear HO_6 HO_9 HO_10 HO_254000 HO264 HO269 BK235 BK253 HB; have HO_6 := n0_; have HO_9 := n1_; have HO_10 := n2_; have HO_254000 := n3_; have HO264 := n4_; have HO269 := n5_; have BK235 := n6_; have BK253 := n7_; have HB := n8_; clear n0_ n1_ n2_ n3_ n4_ n5_ n6_ n7_ n8_; (try clear hb); (try clear hb2); (try clear hk); (try clear hi)))
                go_ret
                exact ⟨by first | rfl | (simp [errW_none, errW_some] <;> rfl) | (simp [*, errW_none, errW_some] <;> rfl), by repeat (first | (with_reducible first | exact HB.out | apply below_alloc | apply pw_below_drewN | apply below_drew1 | refine below_set ?_ GE235.out | refine below_set ?_ GE253.out) | exact HB.out)⟩
            · replace c48 := Bool.eq_false_iff.mpr c48
              subst c48
              have H1 : (some false) = some r := by rw [if_neg (show ¬ (false = true) by decide)] at H; exact H
              clear H
              have H := H1
              clear H1
              obtain rfl := Option.some.inj H
              try go_wp2
              have n0_ := Aside0.mk (Kd.S_drew HO_6.out)
              have n1_ := Aside0.mk (Kd.R_drew HO_9.out)
              have n2_ := Aside0.mk (Kd.S_drew HO_10.out)
              have n3_ := Aside0.mk (Kd.R_drew HO_254000.out)
              have n4_ := Aside0.mk (blk_drew BK235.out)
              have n5_ := Aside0.mk (blk_drew BK253.out)
              have n6_ := Aside0.mk (below_drew1 HB.out)
              clear HO_6
              clear HO_9
              clear HO_10
              clear HO_254000
              clear BK235
              clear BK253
              clear HB
              have HO_6 := n0_
              have HO_9 := n1_
              have HO_10 := n2_
              have HO_254000 := n3_
              have BK235 := n4_
              have BK253 := n5_
              have HB := n6_
              clear n0_ n1_ n2_ n3_ n4_ n5_ n6_
              refine start_ (n := 5) (S := fun w' => w'.cell? ⟨gb253, 0, none⟩ = some (.slice Ao32 t249.length co32) ∧ w'.cell? ⟨gb253, 1, none⟩ = some (.int .i64 t252) ∧ w'.cell? ⟨gb235, 0, none⟩ = some (.slice A0_0 l0_0.length c0_0) ∧ w'.cell? ⟨gb235, 1, none⟩ = some (.int .i64 a0_1)) (ds := []) #[false, false, false, false, false] (by kernel_rfl) rfl rfl ⟨(blk_cell BK253.out 0).trans rfl, (blk_cell BK253.out 1).trans rfl, (blk_cell BK235.out 0).trans rfl, (blk_cell BK235.out 1).trans rfl⟩ (fun hHeld => ?_)
              generalize wc.drew = w112 at HO_6 HO_9 HO_10 HO_254000 BK235 BK253 HB hHeld ⊢
              refine take_ (i := 0) (N := some 54) (v := ?_) (a' := ?_) #[true, false, false, false, false] rfl rfl (by kernel_rfl) (fun _ _ _ h => h) (Or.inl ⟨by rfl, ?_⟩) hHeld ?_ ?_
              rotate_left
              · rintro w' ⟨s0, s1, s2, s3⟩
                go_simp
                with_reducible rfl
              rotate_left
              · simp only [Act.put, List.setIfInBounds_toArray, List.set_cons_zero, List.set_cons_succ, i64_w, i32_w]
                rfl
              refine take_ (i := 1) (N := some 55) (v := ?_) (a' := ?_) #[true, true, false, false, false] rfl rfl (by kernel_rfl) (fun _ _ _ h => h) (Or.inl ⟨by rfl, ?_⟩) hHeld ?_ ?_
              rotate_left
              · rintro w' ⟨s0, s1, s2, s3⟩
                go_simp
                with_reducible rfl
              rotate_left
              · simp only [Act.put, List.setIfInBounds_toArray, List.set_cons_zero, List.set_cons_succ, i64_w, i32_w]
                rfl
              refine one_ (i := 2) (N := some 56) #[true, true, true, false, false] rfl rfl (by kernel_rfl) (by decide) (fun K hK => ?_)
              refine goes_ Try.func37 (by kernel_rfl) rfl #[.agg #[.slice A0_0 l0_0.length c0_0, .int .i64 a0_1]] (by rfl) rfl rfl (by (try simp only [List.map_toArray, List.map_cons, List.map_nil]); first | done | rfl | (simp only [List.length_drop, List.length_take]; rfl)) ?_
              with_reducible refine (laws_toInstrument.calls kj18 _ _ l0_0 a0_1 t262 t265 _ ?side1 ?side2 A46.out).mono ?_
              (case side1 => repeat (first | exact (Kd.C_below HR0_0.out HB.out) | (with_reducible refine Kd.C_alloc ?_ _) | (with_reducible refine Kd.C_drewN ?_ _) | (with_reducible refine Kd.C_drew ?_)))
              (case side2 => exact HC0_0.out)
              rintro e w113 ⟨v263, rfl, ho0, hb⟩
              refine ⟨_, rfl, ?_⟩
              have n0_ := Aside0.mk (Kd.S_elder' (by (with_reducible repeat (first | apply Kd.S_alloc | apply Kd.S_drewN | apply Kd.S_drew)); exact HO_6.out) (Kd.R_base ho0) hb)
              have n1_ := Aside0.mk (Kd.R_below (by (with_reducible repeat (first | apply Kd.R_alloc | apply Kd.R_drewN | apply Kd.R_drew)); exact HO_9.out) hb)
              have n2_ := Aside0.mk (Kd.S_elder' (by (with_reducible repeat (first | apply Kd.S_alloc | apply Kd.S_drewN | apply Kd.S_drew)); exact HO_10.out) (Kd.R_base ho0) hb)
              have n3_ := Aside0.mk (Kd.R_elder' (by (with_reducible repeat (first | apply Kd.R_alloc | apply Kd.R_drewN | apply Kd.R_drew)); exact HO_254000.out) (Kd.R_base ho0) hb)
              have n4_ := Aside0.mk (Kd.R_lower (Kd.R_new' ho0 (Kd.R_lt (by (with_reducible repeat (first | apply Kd.R_alloc | apply Kd.R_drewN | apply Kd.R_drew)); exact HO_254000.out))) (below_size (by repeat (first | (with_reducible first | exact HB.out | apply below_alloc | apply pw_below_drewN | apply below_drew1 | refine below_set ?_ GE235.out | refine below_set ?_ GE253.out) | exact HB.out))))
              have n5_ := Aside0.mk (blk_below (g := gb235) (o := .cells #[.slice A0_0 l0_0.length c0_0, .int .i64 a0_1] 55 (0, 0)) (by (with_reducible repeat (first | refine blk_drewN ?_ _ | refine blk_drew ?_ | refine blk_alloc ?_ _)); exact BK235.out) hb)
              have n6_ := Aside0.mk (blk_below (g := gb253) (o := .cells #[.slice Ao32 t249.length co32, .int .i64 t252] 59 (0, 0)) (by (with_reducible repeat (first | refine blk_drewN ?_ _ | refine blk_drew ?_ | refine blk_alloc ?_ _)); exact BK253.out) hb)
              have n7_ := Aside0.mk (below_step (by repeat (first | (with_reducible first | exact HB.out | apply below_alloc | apply pw_below_drewN | apply below_drew1 | refine below_set ?_ GE235.out | refine below_set ?_ GE253.out) | exact HB.out)) hb)
              clear HO_6
              clear HO_9
              clear HO_10
              clear HO_254000
              clear BK235
              clear BK253
              clear HB
              have HO_6 := n0_
              have HO_9 := n1_
              have HO_10 := n2_
              have HO_254000 := n3_
              have HO264 := n4_
              have BK235 := n5_
              have BK253 := n6_
              have HB := n7_
              clear n0_ n1_ n2_ n3_ n4_ n5_ n6_ n7_
              (try clear hb)
              (try clear hb2)
              (try clear hk)
              (try clear hi)
              (try clear ho0)
              obtain ⟨Ao114, co114, eo114⟩ := Kd.R_slice HO264.out
              (first | subst eo114 | (injection eo114 with f1_ f2_ f3_; have f4_ := f1_.symm; have f5_ := f3_.symm; clear f1_ f2_ f3_; subst f4_; subst f5_))
              refine hK.out _ _ ⟨(blk_cell BK253.out 0).trans rfl, (blk_cell BK253.out 1).trans rfl, (blk_cell BK235.out 0).trans rfl, (blk_cell BK235.out 1).trans rfl⟩ (fun hHeld => ?_)
              clear hK K
              refine norm_ (a' := ?_) ?_ ?_
              rotate_left
              · show Act.put _ (some 56) _ = _
                simp only [Act.put, List.setIfInBounds_toArray, List.set_cons_zero, List.set_cons_succ, i64_w, i32_w]
                rfl
              refine one_ (i := 3) (N := some 57) #[true, true, true, true, false] rfl rfl (by kernel_rfl) (by decide) (fun K hK => ?_)
              refine goes_ Try.func39 (by kernel_rfl) rfl #[.agg #[.slice Ao32 t249.length co32, .int .i64 t252], .agg #[.slice Ao114 t262.length co114, .int .i64 t265]] (by rfl) rfl rfl (by (try simp only [List.map_toArray, List.map_cons, List.map_nil]); first | done | rfl | (simp only [List.length_drop, List.length_take]; rfl)) ?_
              with_reducible refine (laws_eqInstrument.calls kj18 _ _ t249 t252 _ _ t262 t265 false _ ?side1 ?side2 ?side3 ?side4 A47.out).mono ?_
              (case side1 => repeat (first | exact (Kd.R_reads' HO_254000.out).2.2 | (with_reducible refine Kd.C_alloc ?_ _) | (with_reducible refine Kd.C_drewN ?_ _) | (with_reducible refine Kd.C_drew ?_)))
              (case side2 => exact (Kd.R_reads' HO_254000.out).2.1)
              (case side3 => repeat (first | exact (Kd.R_reads' HO264.out).2.2 | (with_reducible refine Kd.C_alloc ?_ _) | (with_reducible refine Kd.C_drewN ?_ _) | (with_reducible refine Kd.C_drew ?_)))
              (case side4 => exact (Kd.R_reads' HO264.out).2.1)
              rintro e w115 ⟨rfl, hb⟩
              refine ⟨_, rfl, ?_⟩
              have n0_ := Aside0.mk (Kd.S_below (by (with_reducible repeat (first | apply Kd.S_alloc | apply Kd.S_drewN | apply Kd.S_drew)); exact HO_6.out) hb)
              have n1_ := Aside0.mk (Kd.R_below (by (with_reducible repeat (first | apply Kd.R_alloc | apply Kd.R_drewN | apply Kd.R_drew)); exact HO_9.out) hb)
              have n2_ := Aside0.mk (Kd.S_below (by (with_reducible repeat (first | apply Kd.S_alloc | apply Kd.S_drewN | apply Kd.S_drew)); exact HO_10.out) hb)
              have n3_ := Aside0.mk (Kd.R_below (by (with_reducible repeat (first | apply Kd.R_alloc | apply Kd.R_drewN | apply Kd.R_drew)); exact HO_254000.out) hb)
              have n4_ := Aside0.mk (Kd.R_below (by (with_reducible repeat (first | apply Kd.R_alloc | apply Kd.R_drewN | apply Kd.R_drew)); exact HO264.out) hb)
              have n5_ := Aside0.mk (blk_below (g := gb235) (o := .cells #[.slice A0_0 l0_0.length c0_0, .int .i64 a0_1] 55 (0, 0)) (by (with_reducible repeat (first | refine blk_drewN ?_ _ | refine blk_drew ?_ | refine blk_alloc ?_ _)); exact BK235.out) hb)
              have n6_ := Aside0.mk (blk_below (g := gb253) (o := .cells #[.slice Ao32 t249.length co32, .int .i64 t252] 59 (0, 0)) (by (with_reducible repeat (first | refine blk_drewN ?_ _ | refine blk_drew ?_ | refine blk_alloc ?_ _)); exact BK253.out) hb)
              have n7_ := Aside0.mk (below_step (by repeat (first | (with_reducible first | exact HB.out | apply below_alloc | apply pw_below_drewN | apply below_drew1 | refine below_set ?_ GE235.out | refine below_set ?_ GE253.out) | exact HB.out)) hb)
              clear HO_6
              clear HO_9
              clear HO_10
              clear HO_254000
              clear HO264
              clear BK235
              clear BK253
              clear HB
              have HO_6 := n0_
              have HO_9 := n1_
              have HO_10 := n2_
              have HO_254000 := n3_
              have HO264 := n4_
              have BK235 := n5_
              have BK253 := n6_
              have HB := n7_
              clear n0_ n1_ n2_ n3_ n4_ n5_ n6_ n7_
              (try clear hb)
              (try clear hb2)
              (try clear hk)
              (try clear hi)
              refine hK.out _ _ ⟨(blk_cell BK253.out 0).trans rfl, (blk_cell BK253.out 1).trans rfl, (blk_cell BK235.out 0).trans rfl, (blk_cell BK235.out 1).trans rfl⟩ (fun hHeld => ?_)
              clear hK K
              refine norm_ (a' := ?_) ?_ ?_
              rotate_left
              · show Act.put _ (some 57) _ = _
                simp only [Act.put, List.setIfInBounds_toArray, List.set_cons_zero, List.set_cons_succ, i64_w, i32_w]
                rfl
              refine pure_ (i := 4) (N := some 58) (v := ?_) (a' := ?_) #[true, true, true, true, true] rfl rfl (by kernel_rfl) (fun _ _ _ h => h) (Or.inl ⟨by rfl, ?_⟩) ?_ ?_
              rotate_left
              · intro w'
                go_simp
                with_reducible rfl
              rotate_left
              · simp only [Act.put, List.setIfInBounds_toArray, List.set_cons_zero, List.set_cons_succ, i64_w, i32_w]
                rfl
              refine done_ (by kernel_rfl) ?_
              try go_wp2
              go_ret
              exact ⟨by first | rfl | (simp [errW_none, errW_some] <;> rfl) | (simp [*, errW_none, errW_some] <;> rfl), by repeat (first | (with_reducible first | exact HB.out | apply below_alloc | apply pw_below_drewN | apply below_drew1 | refine below_set ?_ GE235.out | refine below_set ?_ GE253.out) | exact HB.out)⟩

end Go.Proofs.Ytjgpngeifgcidaa.PFnExactFastRepeats
