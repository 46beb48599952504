-- by wip/xprint.py, over the kit's printer
import Derived.Test.YtgeipgflhjakjaaPFnTempoChangesx0
import Derived.Test.YtgeipgflhjakjaaPFnTempoChangesx4
import Derived.Test.YtgeipgflhjakjaaPFnTempoChangesx5
import Derived.Test.YtgeipgflhjakjaaPFnTempoChangesx7
import Derived.Test.YtgeipgflhjakjaaPFnTempoChangesx8
import Derived.Test.YtgeipgflhjakjaaPFnTempoChangesx9
import Derived.Test.YtgeipgflhjakjaaPFnTempoChangesx10
import Derived.Test.YtgeipgflhjakjaaPFnTempoChangesx13
namespace Go.Proofs.Ytgeipgflhjakjaa.PFnTempoChanges
open Go.RowKit Go.Proofs.YtgeipgflhjakjaaW.PrintWords Go.Proofs.YtgeipgflhjakjaaW.PrintLast Go.Proofs.YtgeipgflhjakjaaW.PrintMore
attribute [local go_sem] max2_int min2_int max_two min_two max_three min_three max_four min_four   -- for this text's walks alone
set_option linter.unusedVariables false
set_option linter.unusedSimpArgs false
private abbrev M_ {p : Prop} (h : p) : Aside0 p := Aside0.mk h
private abbrev la_ := @List.setIfInBounds_toArray
private abbrev lb_ := @List.set_cons_zero
private abbrev lc_ := @List.set_cons_succ
private abbrev bn_ := @pw_below_drewN
private abbrev b1_ := @below_drew1
private abbrev ba_ := @below_alloc
private abbrev bs_ := @below_set
private abbrev kn_ := @blk_drewN
private abbrev ka_ := @blk_alloc
private abbrev kd_ := @blk_drew
private abbrev rn_ := @Kd.R_drewN
private abbrev ra_ := @Kd.R_alloc
private abbrev rd_ := @Kd.R_drew
private abbrev rb_ := @Kd.R_below
private abbrev rm_ := @Kd.R_mono
private abbrev rt_ := @Kd.R_types
private theorem bS_ {w W w2 : World} (k : Below W.heap.size W w2) (h : Below w.heap.size w W := by repeat (first | (with_reducible first | exact HB.out | apply ba_ | apply bn_ | apply b1_) | exact HB.out)) : Below w.heap.size w w2 := below_step h k
private theorem bZ_ {w W : World} (h : Below w.heap.size w W := by repeat (first | (with_reducible first | exact HB.out | apply ba_ | apply bn_ | apply b1_) | exact HB.out)) : w.heap.size ≤ W.heap.size := below_size h
private theorem eW_ {p : Prop} {w W : World} {n : Nat} (h1 : p := by first | rfl | (simp [errW_none, errW_some] <;> rfl) | (simp [*, errW_none, errW_some] <;> rfl)) (h2 : Below n w W := by repeat (first | (with_reducible first | exact HB.out | apply ba_ | apply bn_ | apply b1_) | exact HB.out)) : p ∧ Below n w W := ⟨h1, h2⟩
private theorem dT_ {p : Prop} [Decidable p] (h : decide p = true := by first | (with_reducible assumption) | assumption) : p := of_decide_eq_true h
private theorem rU_ {α : Type} {d : Kd α} {e : Nat} {w w' : World} {b : Nat} {ok : Nat → Prop} {v : Value} {xs : List α} (h : d.R e w b ok v xs) (u : d.R e w b ok v xs → d.R e w' b ok v xs := by intro h_; (with_reducible repeat (first | apply ra_ | apply rn_ | apply rd_)); exact h_) : d.R e w' b ok v xs := u h
private theorem cU_ {α : Type} {d : Kd α} {w w' : World} {A : Option Addr} {n : Nat} {xs : List α} (h : d.C w A n xs) (u : d.C w A n xs → d.C w' A n xs := by intro h_; repeat (first | exact h_ | (with_reducible refine Kd.C_alloc ?_ _) | (with_reducible refine Kd.C_drewN ?_ _) | (with_reducible refine Kd.C_drew ?_))) : d.C w' A n xs := u h
private theorem gL_ {P : Program} {ops : Array Oper} {Q : Exit → Act → World → Prop} {rest : List Oper} {oi : Oper} {a : Act} {w : World} (N : Option Tmp) (hd : oi.dst = N) (hg : oi.guard = none) {f : FuncId} {fn : Func} {as1 : Array Operand} {ts : Array TypeId} (hf : P.funcs[f]? = some fn) (hname : (fn.name == "runtime.NumGoroutine") = false) (hb : fn.body.isSome = true) (args : Array Value) (hop : oi.op = .call { callee := .value (.func f), args := as1, argTypes := ts }) (h : Calls P f args w fun e w' => ∃ v, e = .returned v ∧ wpList P ops Q rest (a.put N v) w') (hargs : as1.map a.eval = args := by (try simp only [List.map_toArray, List.map_cons, List.map_nil]); first | done | rfl | (simp only [List.length_drop, List.length_take]; rfl)) : wpList P ops Q (oi :: rest) a w := goesL_ N hd hg hf hname hb args hop hargs h

mutual
def impl_AddTempo.j0 : Nat → List (S41) → Bool → Int → Int → Option ((List (S41)) × Bool)
 | 0, _, _, _, _ => none
 | k + 1, x0, x15, x453000, x453001 => if x15 = true then (some (([] : List (S41)), false)) else ((clone_Change.f x0).bind fun t455 => (impl_AddTempo.l0 k t455 0 x453000 x453001))
def impl_AddTempo.j2 : Nat → List (S41) → Int → Int → Int → Option ((List (S41)) × Bool)
 | 0, _, _, _, _ => none
 | k + 1, x6, x7, x453000, x453001 => if x7 < (x6.length : Int) then (if 0 ≤ x7 then (impl_AddTempo.j3 k x6 x7 (((rd_T41 x6 x7).f0) == x453000) x453000 x453001) else (none)) else (impl_AddTempo.j3 k x6 x7 false x453000 x453001)
def impl_AddTempo.j3 : Nat → List (S41) → Int → Bool → Int → Int → Option ((List (S41)) × Bool)
 | 0, _, _, _, _, _ => none
 | k + 1, x6, x7, x47, x453000, x453001 => if x47 = true then (if 0 ≤ x7 then (if x7 < (x6.length : Int) then (some ((x6.set (x7 : Int).toNat (⟨x453000, x453001⟩ : S41)), true)) else (none)) else (none)) else (if (x6.length : Int) = 20 then (some (([] : List (S41)), false)) else ((insert_Change.f x6 x7 (([(⟨x453000, x453001⟩ : S41)] : List (S41)))).bind fun t464 => (some (t464, true))))
def impl_AddTempo.l0 : Nat → List (S41) → Int → Int → Int → Option ((List (S41)) × Bool)
 | 0, _, _, _, _ => none
 | k + 1, x6, x7, x453000, x453001 => if x7 < (x6.length : Int) then (if 0 ≤ x7 then (if ((rd_T41 x6 x7).f0) < x453000 then (impl_AddTempo.l0 k x6 (wrap64 (x7 + 1)) x453000 x453001) else (impl_AddTempo.j2 k x6 x7 x453000 x453001)) else (none)) else (impl_AddTempo.j2 k x6 x7 x453000 x453001)
end
def impl_AddTempo.f (k : Nat) (l0 : List (S41)) (a1_0 : Int) (a1_1 : Int) : Option ((List (S41)) × Bool) := (impl_AreTempos.f k l0).bind fun t453 => (if t453 = true then ((impl_isChange.f a1_0 a1_1).bind fun t454 => (impl_AddTempo.j0 k l0 (!t454) a1_0 a1_1)) else (impl_AddTempo.j0 k l0 true a1_0 a1_1))
theorem impl_AddTempo.mono_l : ∀ k, (∀ y0 y1 y2 y3, LeO (impl_AddTempo.j0 k y0 y1 y2 y3) (impl_AddTempo.j0 (k + 1) y0 y1 y2 y3)) ∧ (∀ y0 y1 y2 y3, LeO (impl_AddTempo.j2 k y0 y1 y2 y3) (impl_AddTempo.j2 (k + 1) y0 y1 y2 y3)) ∧ (∀ y0 y1 y2 y3 y4, LeO (impl_AddTempo.j3 k y0 y1 y2 y3 y4) (impl_AddTempo.j3 (k + 1) y0 y1 y2 y3 y4)) ∧ (∀ y0 y1 y2 y3, LeO (impl_AddTempo.l0 k y0 y1 y2 y3) (impl_AddTempo.l0 (k + 1) y0 y1 y2 y3))
 | 0 => ⟨fun _ _ _ _ r h => by simp [impl_AddTempo.j0] at h, fun _ _ _ _ r h => by simp [impl_AddTempo.j2] at h, fun _ _ _ _ _ r h => by simp [impl_AddTempo.j3] at h, fun _ _ _ _ r h => by simp [impl_AddTempo.l0] at h⟩
 | k + 1 => by
  obtain ⟨ih0, ih1, ih2, ih3⟩ := impl_AddTempo.mono_l k
  refine ⟨?_, ?_, ?_, ?_⟩
  ·intro y0 y1 y2 y3
   unfold impl_AddTempo.j0
   repeat' first
   | (with_reducible exact ih0 _ _ _ _)
   | (with_reducible exact ih1 _ _ _ _)
   | (with_reducible exact ih2 _ _ _ _ _)
   | (with_reducible exact ih3 _ _ _ _)
   | (with_reducible exact impl_AreTempos.mono _ _)
   | (with_reducible exact LeO.refl _)
   | (with_reducible exact LeO.none _)
   | (with_reducible refine LeO.ite ?_ ?_)
   | (with_reducible refine LeO.bind ?_ (fun _ => ?_))
   | exact ih0 _ _ _ _
   | exact ih1 _ _ _ _
   | exact ih2 _ _ _ _ _
   | exact ih3 _ _ _ _
   | exact impl_AreTempos.mono _ _
   | exact LeO.none _
   | refine LeO.ite ?_ ?_
   | refine LeO.bind ?_ (fun _ => ?_)
  ·intro y0 y1 y2 y3
   unfold impl_AddTempo.j2
   repeat' first
   | (with_reducible exact ih0 _ _ _ _)
   | (with_reducible exact ih1 _ _ _ _)
   | (with_reducible exact ih2 _ _ _ _ _)
   | (with_reducible exact ih3 _ _ _ _)
   | (with_reducible exact impl_AreTempos.mono _ _)
   | (with_reducible exact LeO.refl _)
   | (with_reducible exact LeO.none _)
   | (with_reducible refine LeO.ite ?_ ?_)
   | (with_reducible refine LeO.bind ?_ (fun _ => ?_))
   | exact ih0 _ _ _ _
   | exact ih1 _ _ _ _
   | exact ih2 _ _ _ _ _
   | exact ih3 _ _ _ _
   | exact impl_AreTempos.mono _ _
   | exact LeO.none _
   | refine LeO.ite ?_ ?_
   | refine LeO.bind ?_ (fun _ => ?_)
  ·intro y0 y1 y2 y3 y4
   unfold impl_AddTempo.j3
   repeat' first
   | (with_reducible exact ih0 _ _ _ _)
   | (with_reducible exact ih1 _ _ _ _)
   | (with_reducible exact ih2 _ _ _ _ _)
   | (with_reducible exact ih3 _ _ _ _)
   | (with_reducible exact impl_AreTempos.mono _ _)
   | (with_reducible exact LeO.refl _)
   | (with_reducible exact LeO.none _)
   | (with_reducible refine LeO.ite ?_ ?_)
   | (with_reducible refine LeO.bind ?_ (fun _ => ?_))
   | exact ih0 _ _ _ _
   | exact ih1 _ _ _ _
   | exact ih2 _ _ _ _ _
   | exact ih3 _ _ _ _
   | exact impl_AreTempos.mono _ _
   | exact LeO.none _
   | refine LeO.ite ?_ ?_
   | refine LeO.bind ?_ (fun _ => ?_)
  ·intro y0 y1 y2 y3
   unfold impl_AddTempo.l0
   repeat' first
   | (with_reducible exact ih0 _ _ _ _)
   | (with_reducible exact ih1 _ _ _ _)
   | (with_reducible exact ih2 _ _ _ _ _)
   | (with_reducible exact ih3 _ _ _ _)
   | (with_reducible exact impl_AreTempos.mono _ _)
   | (with_reducible exact LeO.refl _)
   | (with_reducible exact LeO.none _)
   | (with_reducible refine LeO.ite ?_ ?_)
   | (with_reducible refine LeO.bind ?_ (fun _ => ?_))
   | exact ih0 _ _ _ _
   | exact ih1 _ _ _ _
   | exact ih2 _ _ _ _ _
   | exact ih3 _ _ _ _
   | exact impl_AreTempos.mono _ _
   | exact LeO.none _
   | refine LeO.ite ?_ ?_
   | refine LeO.bind ?_ (fun _ => ?_)
theorem impl_AddTempo.mono : ∀ a0 a1 a2 k, LeO (impl_AddTempo.f k a0 a1 a2) (impl_AddTempo.f (k + 1) a0 a1 a2) := by
 intro a0 a1 a2 k
 obtain ⟨ih0, ih1, ih2, ih3⟩ := impl_AddTempo.mono_l k
 unfold impl_AddTempo.f
 repeat' first
   | (with_reducible exact ih0 _ _ _ _)
   | (with_reducible exact ih1 _ _ _ _)
   | (with_reducible exact ih2 _ _ _ _ _)
   | (with_reducible exact ih3 _ _ _ _)
   | (with_reducible exact impl_AreTempos.mono _ _)
   | (with_reducible exact LeO.refl _)
   | (with_reducible exact LeO.none _)
   | (with_reducible refine LeO.ite ?_ ?_)
   | (with_reducible refine LeO.bind ?_ (fun _ => ?_))
   | exact ih0 _ _ _ _
   | exact ih1 _ _ _ _
   | exact ih2 _ _ _ _ _
   | exact ih3 _ _ _ _
   | exact impl_AreTempos.mono _ _
   | exact LeO.none _
   | refine LeO.ite ?_ ?_
   | refine LeO.bind ?_ (fun _ => ?_)
set_option maxHeartbeats 8000000 in
set_option maxRecDepth 100000 in
theorem impl_AddTempo.calls (k : Nat) (A0 : Option Addr) (c0 : Nat) (l0 : List (S41)) (a1_0 : Int) (a1_1 : Int) (r1 : List (S41)) (r2 : Bool) (w : World) (hr0 : Kd.C k41 w A0 l0.length l0) (hc0 : l0.length ≤ c0) (h : impl_AddTempo.f k l0 a1_0 a1_1 = some (r1, r2)) :
  Calls Try.prog 29 #[.slice A0 l0.length c0, .agg #[.int .i64 a1_0, .int .i64 a1_1]] w fun e w' => ∃ v0_ : Value, e = .returned (.tuple #[v0_, .bool r2]) ∧ Kd.R k41 41 w' w.heap.size (fun _ => True) v0_ r1 ∧ Below w.heap.size w w' := by
 have hu41 := Try.underlying41
 have HR0 := M_ hr0
 have HC0 := M_ hc0
 clear hr0 hc0
 have HB := M_ (Below.refl w.heap.size w)
 have H : ((impl_AreTempos.f k l0).bind fun t453 => (if t453 = true then ((impl_isChange.f a1_0 a1_1).bind fun t454 => (impl_AddTempo.j0 k l0 (!t454) a1_0 a1_1)) else (impl_AddTempo.j0 k l0 true a1_0 a1_1))) = some (r1, r2) := h
 clear h
 have HC3 := M_ H
 clear H
 go_enter Try.func29, Try.ntmps29
 go_upto_region 1 with (first | ((with_reducible refine gate_dst (N := 3) rfl ?_); refine box_event ?hg (N := 3) ?hd (cs := #[.int .i64 a1_0, .int .i64 a1_1]) (t := 41) ?hr ?_; (case hd => rfl); (case hg => rfl); (case hr => first | (go_simp; done) | (go_simp; rfl)); intro gb452 hg w4 hbox hb; have n0_ := M_ (bS_ hb); have n1_ := M_ (hbox); have n2_ := M_ ((by rw [hg]; exact bZ_ : w.heap.size ≤ gb452)); have n3_ := M_ ((by rw [hg]; exact bZ_ : w.heap.size ≤ gb452)); clear HB; have HB := n0_; have BK452 := n1_; have GW452 := n2_; have GE452 := n3_; clear n0_ n1_ n2_ n3_; clear hb hbox hg))
 repeat (go_quiet (first | ((with_reducible refine gate_dst (N := 3) rfl ?_); refine box_event ?hg (N := 3) ?hd (cs := #[.int .i64 a1_0, .int .i64 a1_1]) (t := 41) ?hr ?_; (case hd => rfl); (case hg => rfl); (case hr => first | (go_simp; done) | (go_simp; rfl)); intro gb452 hg w4 hbox hb; have n0_ := M_ (bS_ hb); have n1_ := M_ (hbox); have n2_ := M_ ((by rw [hg]; exact bZ_ : w.heap.size ≤ gb452)); have n3_ := M_ ((by rw [hg]; exact bZ_ : w.heap.size ≤ gb452)); clear HB; have HB := n0_; have BK452 := n1_; have GW452 := n2_; have GE452 := n3_; clear n0_ n1_ n2_ n3_; clear hb hbox hg)); go_upto_region 1 with (first | ((with_reducible refine gate_dst (N := 3) rfl ?_); refine box_event ?hg (N := 3) ?hd (cs := #[.int .i64 a1_0, .int .i64 a1_1]) (t := 41) ?hr ?_; (case hd => rfl); (case hg => rfl); (case hr => first | (go_simp; done) | (go_simp; rfl)); intro gb452 hg w4 hbox hb; have n0_ := M_ (bS_ hb); have n1_ := M_ (hbox); have n2_ := M_ ((by rw [hg]; exact bZ_ : w.heap.size ≤ gb452)); have n3_ := M_ ((by rw [hg]; exact bZ_ : w.heap.size ≤ gb452)); clear HB; have HB := n0_; have BK452 := n1_; have GW452 := n2_; have GE452 := n3_; clear n0_ n1_ n2_ n3_; clear hb hbox hg)))
 (try simp only [Act.put, la_, lb_, lc_])
 go_cut [15] (fun v15 wc => ∃ (kq : Nat) (x15_2 : Bool), v15 = .bool x15_2 ∧ Aside0 (impl_AddTempo.j0 kq l0 x15_2 a1_0 a1_1 = some (r1, r2)) ∧ Aside0 (kq ≤ k) ∧ Aside0 (wc.heap[gb452]? = some (.cells #[.int .i64 a1_0, .int .i64 a1_1] 41 (0, 0))) ∧ Aside0 (Below w.heap.size w wc))
 case first =>
  have H := HC3.out
  clear HC3
  replace H := Option.bind_eq_some_iff.mp H
  obtain ⟨t453, A50, H⟩ := H
  try dsimp only at H
  have A5 := M_ A50
  clear A50
  by_cases c6 : t453 = true
  ·subst c6
   have H1 : ((impl_isChange.f a1_0 a1_1).bind fun t454 => (impl_AddTempo.j0 k l0 (!t454) a1_0 a1_1)) = some (r1, r2) := by rw [if_pos rfl] at H; exact H
   clear H
   have H := H1
   clear H1
   replace H := Option.bind_eq_some_iff.mp H
   obtain ⟨t454, A70, H⟩ := H
   try dsimp only at H
   have A7 := M_ A70
   clear A70
   have H' := M_ H
   clear H
   go_wp2_with (first | (go_at_call 27; (with_reducible refine (impl_AreTempos.calls k _ _ l0 true _ ?side1 ?side2 A5.out).mono ?_); (case side1 => exact cU_ (Kd.C_below HR0.out HB.out)); (case side2 => exact HC0.out); rintro e w8 ⟨rfl, hb⟩; have n0_ := M_ (blk_below (g := gb452) (o := .cells #[.int .i64 a1_0, .int .i64 a1_1] 41 (0, 0)) (by (with_reducible repeat (first | refine kn_ ?_ _ | refine kd_ ?_ | refine ka_ ?_ _)); exact BK452.out) hb); have n1_ := M_ (below_step (by repeat (first | (with_reducible first | exact HB.out | apply ba_ | apply bn_ | apply b1_ | refine bs_ ?_ GE452.out) | exact HB.out)) hb); clear BK452; clear HB; have BK452 := n0_; have HB := n1_; clear n0_ n1_; (try clear hb); (try clear hb2); (try clear hk); (try clear hi); have hcz9_0 : w8.cell? ⟨gb452, 0, none⟩ = some (.int .i64 a1_0) := (blk_cell BK452.out 0).trans rfl; have hcz9_1 : w8.cell? ⟨gb452, 1, none⟩ = some (.int .i64 a1_1) := (blk_cell BK452.out 1).trans rfl; have hfz9_0 := blk_frozen BK452.out 0; have hfz9_1 := blk_frozen BK452.out 1) | (go_at_call 84; (with_reducible refine (impl_isChange.calls a1_0 a1_1 t454 _ A7.out).mono ?_); rintro e w10 ⟨rfl, hb⟩; have n0_ := M_ (blk_below (g := gb452) (o := .cells #[.int .i64 a1_0, .int .i64 a1_1] 41 (0, 0)) (by (with_reducible repeat (first | refine kn_ ?_ _ | refine kd_ ?_ | refine ka_ ?_ _)); exact BK452.out) hb); have n1_ := M_ (below_step (by repeat (first | (with_reducible first | exact HB.out | apply ba_ | apply bn_ | apply b1_ | refine bs_ ?_ GE452.out) | exact HB.out)) hb); clear BK452; clear HB; have BK452 := n0_; have HB := n1_; clear n0_ n1_; (try clear hb); (try clear hb2); (try clear hk); (try clear hi)))
   repeat (go_quiet (first | (go_at_call 27; (with_reducible refine (impl_AreTempos.calls k _ _ l0 true _ ?side1 ?side2 A5.out).mono ?_); (case side1 => exact cU_ (Kd.C_below HR0.out HB.out)); (case side2 => exact HC0.out); rintro e w8 ⟨rfl, hb⟩; have n0_ := M_ (blk_below (g := gb452) (o := .cells #[.int .i64 a1_0, .int .i64 a1_1] 41 (0, 0)) (by (with_reducible repeat (first | refine kn_ ?_ _ | refine kd_ ?_ | refine ka_ ?_ _)); exact BK452.out) hb); have n1_ := M_ (below_step (by repeat (first | (with_reducible first | exact HB.out | apply ba_ | apply bn_ | apply b1_ | refine bs_ ?_ GE452.out) | exact HB.out)) hb); clear BK452; clear HB; have BK452 := n0_; have HB := n1_; clear n0_ n1_; (try clear hb); (try clear hb2); (try clear hk); (try clear hi); have hcz9_0 : w8.cell? ⟨gb452, 0, none⟩ = some (.int .i64 a1_0) := (blk_cell BK452.out 0).trans rfl; have hcz9_1 : w8.cell? ⟨gb452, 1, none⟩ = some (.int .i64 a1_1) := (blk_cell BK452.out 1).trans rfl; have hfz9_0 := blk_frozen BK452.out 0; have hfz9_1 := blk_frozen BK452.out 1) | (go_at_call 84; (with_reducible refine (impl_isChange.calls a1_0 a1_1 t454 _ A7.out).mono ?_); rintro e w10 ⟨rfl, hb⟩; have n0_ := M_ (blk_below (g := gb452) (o := .cells #[.int .i64 a1_0, .int .i64 a1_1] 41 (0, 0)) (by (with_reducible repeat (first | refine kn_ ?_ _ | refine kd_ ?_ | refine ka_ ?_ _)); exact BK452.out) hb); have n1_ := M_ (below_step (by repeat (first | (with_reducible first | exact HB.out | apply ba_ | apply bn_ | apply b1_ | refine bs_ ?_ GE452.out) | exact HB.out)) hb); clear BK452; clear HB; have BK452 := n0_; have HB := n1_; clear n0_ n1_; (try clear hb); (try clear hb2); (try clear hk); (try clear hi))); try go_wp2_with (first | (go_at_call 27; (with_reducible refine (impl_AreTempos.calls k _ _ l0 true _ ?side1 ?side2 A5.out).mono ?_); (case side1 => exact cU_ (Kd.C_below HR0.out HB.out)); (case side2 => exact HC0.out); rintro e w8 ⟨rfl, hb⟩; have n0_ := M_ (blk_below (g := gb452) (o := .cells #[.int .i64 a1_0, .int .i64 a1_1] 41 (0, 0)) (by (with_reducible repeat (first | refine kn_ ?_ _ | refine kd_ ?_ | refine ka_ ?_ _)); exact BK452.out) hb); have n1_ := M_ (below_step (by repeat (first | (with_reducible first | exact HB.out | apply ba_ | apply bn_ | apply b1_ | refine bs_ ?_ GE452.out) | exact HB.out)) hb); clear BK452; clear HB; have BK452 := n0_; have HB := n1_; clear n0_ n1_; (try clear hb); (try clear hb2); (try clear hk); (try clear hi); have hcz9_0 : w8.cell? ⟨gb452, 0, none⟩ = some (.int .i64 a1_0) := (blk_cell BK452.out 0).trans rfl; have hcz9_1 : w8.cell? ⟨gb452, 1, none⟩ = some (.int .i64 a1_1) := (blk_cell BK452.out 1).trans rfl; have hfz9_0 := blk_frozen BK452.out 0; have hfz9_1 := blk_frozen BK452.out 1) | (go_at_call 84; (with_reducible refine (impl_isChange.calls a1_0 a1_1 t454 _ A7.out).mono ?_); rintro e w10 ⟨rfl, hb⟩; have n0_ := M_ (blk_below (g := gb452) (o := .cells #[.int .i64 a1_0, .int .i64 a1_1] 41 (0, 0)) (by (with_reducible repeat (first | refine kn_ ?_ _ | refine kd_ ?_ | refine ka_ ?_ _)); exact BK452.out) hb); have n1_ := M_ (below_step (by repeat (first | (with_reducible first | exact HB.out | apply ba_ | apply bn_ | apply b1_ | refine bs_ ?_ GE452.out) | exact HB.out)) hb); clear BK452; clear HB; have BK452 := n0_; have HB := n1_; clear n0_ n1_; (try clear hb); (try clear hb2); (try clear hk); (try clear hi))))
   go_meet
   case rel => exact ⟨_, (!t454), (by first | rfl | (simp; done) | (simp [*]; done)), H', ⟨by first | omega | exact Nat.le_refl _⟩, ⟨by (with_reducible repeat (first | refine kn_ ?_ _ | refine kd_ ?_ | refine ka_ ?_ _)); exact BK452.out⟩, ⟨by repeat (first | (with_reducible first | exact HB.out | apply ba_ | apply bn_ | apply b1_ | refine bs_ ?_ GE452.out) | exact HB.out)⟩⟩
  ·replace c6 := Bool.eq_false_iff.mpr c6
   subst c6
   have H1 : (impl_AddTempo.j0 k l0 true a1_0 a1_1) = some (r1, r2) := by rw [if_neg (show ¬ (false = true) by decide)] at H; exact H
   clear H
   have H := H1
   clear H1
   have H' := M_ H
   clear H
   go_wp2_with (first | (go_at_call 27; (with_reducible refine (impl_AreTempos.calls k _ _ l0 false _ ?side1 ?side2 A5.out).mono ?_); (case side1 => exact cU_ (Kd.C_below HR0.out HB.out)); (case side2 => exact HC0.out); rintro e w11 ⟨rfl, hb⟩; have n0_ := M_ (blk_below (g := gb452) (o := .cells #[.int .i64 a1_0, .int .i64 a1_1] 41 (0, 0)) (by (with_reducible repeat (first | refine kn_ ?_ _ | refine kd_ ?_ | refine ka_ ?_ _)); exact BK452.out) hb); have n1_ := M_ (below_step (by repeat (first | (with_reducible first | exact HB.out | apply ba_ | apply bn_ | apply b1_ | refine bs_ ?_ GE452.out) | exact HB.out)) hb); clear BK452; clear HB; have BK452 := n0_; have HB := n1_; clear n0_ n1_; (try clear hb); (try clear hb2); (try clear hk); (try clear hi)))
   repeat (go_quiet (first | (go_at_call 27; (with_reducible refine (impl_AreTempos.calls k _ _ l0 false _ ?side1 ?side2 A5.out).mono ?_); (case side1 => exact cU_ (Kd.C_below HR0.out HB.out)); (case side2 => exact HC0.out); rintro e w11 ⟨rfl, hb⟩; have n0_ := M_ (blk_below (g := gb452) (o := .cells #[.int .i64 a1_0, .int .i64 a1_1] 41 (0, 0)) (by (with_reducible repeat (first | refine kn_ ?_ _ | refine kd_ ?_ | refine ka_ ?_ _)); exact BK452.out) hb); have n1_ := M_ (below_step (by repeat (first | (with_reducible first | exact HB.out | apply ba_ | apply bn_ | apply b1_ | refine bs_ ?_ GE452.out) | exact HB.out)) hb); clear BK452; clear HB; have BK452 := n0_; have HB := n1_; clear n0_ n1_; (try clear hb); (try clear hb2); (try clear hk); (try clear hi))); try go_wp2_with (first | (go_at_call 27; (with_reducible refine (impl_AreTempos.calls k _ _ l0 false _ ?side1 ?side2 A5.out).mono ?_); (case side1 => exact cU_ (Kd.C_below HR0.out HB.out)); (case side2 => exact HC0.out); rintro e w11 ⟨rfl, hb⟩; have n0_ := M_ (blk_below (g := gb452) (o := .cells #[.int .i64 a1_0, .int .i64 a1_1] 41 (0, 0)) (by (with_reducible repeat (first | refine kn_ ?_ _ | refine kd_ ?_ | refine ka_ ?_ _)); exact BK452.out) hb); have n1_ := M_ (below_step (by repeat (first | (with_reducible first | exact HB.out | apply ba_ | apply bn_ | apply b1_ | refine bs_ ?_ GE452.out) | exact HB.out)) hb); clear BK452; clear HB; have BK452 := n0_; have HB := n1_; clear n0_ n1_; (try clear hb); (try clear hb2); (try clear hk); (try clear hi))))
   go_meet
   case rel => exact ⟨_, (true), (by first | rfl | (simp; done) | (simp [*]; done)), H', ⟨by first | omega | exact Nat.le_refl _⟩, ⟨by (with_reducible repeat (first | refine kn_ ?_ _ | refine kd_ ?_ | refine ka_ ?_ _)); exact BK452.out⟩, ⟨by repeat (first | (with_reducible first | exact HB.out | apply ba_ | apply bn_ | apply b1_ | refine bs_ ?_ GE452.out) | exact HB.out)⟩⟩
 case rest =>
  clear HC3
  try clear c2
  try clear p2
  try clear c6
  try clear hcz9_0
  try clear hcz9_1
  try clear hfz9_0
  try clear hfz9_1
  obtain ⟨kq, x15_2, rfl, HA, HJ2, BK452, HB⟩ := hcut
  cases kq with
  | zero => exact absurd HA.out (by simp [impl_AddTempo.j0])
  | succ kj2 =>
   have H := HA.out
   clear HA
   simp only [impl_AddTempo.j0] at H
   by_cases c12 : x15_2 = true
   ·subst c12
    have H1 : (some (([] : List (S41)), false)) = some (r1, r2) := by rw [if_pos rfl] at H; exact H
    clear H
    have H := H1
    clear H1
    simp only [Option.some.injEq, Prod.mk.injEq] at H
    obtain ⟨rfl, rfl⟩ := H
    go_wp2
    repeat (go_quiet (fail); try go_wp2)
    go_ret2
    exact ⟨_, by first | rfl | (simp [errW_none, errW_some] <;> rfl) | (simp [*, errW_none, errW_some] <;> rfl), by first | exact Kd.R_nil _ _ _ _ _ | exact Kd.N_nil _ _ _ _ _ | exact Kd.V_nil _ _ _ _ _ | exact Kd.Q_nil _ _ _ _ _ | exact Kd.S_nil _ _ _ _ _, by repeat (first | (with_reducible first | exact HB.out | apply ba_ | apply bn_ | apply b1_ | refine bs_ ?_ GE452.out) | exact HB.out)⟩
   ·replace c12 := Bool.eq_false_iff.mpr c12
    subst c12
    have H1 : ((clone_Change.f l0).bind fun t455 => (impl_AddTempo.l0 kj2 t455 0 a1_0 a1_1)) = some (r1, r2) := by rw [if_neg (show ¬ (false = true) by decide)] at H; exact H
    clear H
    have H := H1
    clear H1
    replace H := Option.bind_eq_some_iff.mp H
    obtain ⟨t455, A130, H⟩ := H
    try dsimp only at H
    have A13 := M_ A130
    clear A130
    have HC14 := M_ H
    clear H
    go_upto_block 0 with (first | (go_at_call 69; (with_reducible refine (clone_Change.calls _ _ l0 t455 _ ?side1 ?side2 A13.out).mono ?_); (case side1 => exact cU_ (Kd.C_below HR0.out HB.out)); (case side2 => exact HC0.out); rintro e w15 ⟨v456, rfl, ho0, hb⟩; have n0_ := M_ (Kd.R_lower (Kd.R_newB ho0 (g := gb452) (o := .cells #[.int .i64 a1_0, .int .i64 a1_1] 41 (0, 0)) (by (with_reducible repeat (first | refine kn_ ?_ _ | refine kd_ ?_ | refine ka_ ?_ _)); exact BK452.out)) (below_size (by repeat (first | (with_reducible first | exact HB.out | apply ba_ | apply bn_ | apply b1_ | refine bs_ ?_ GE452.out) | exact HB.out)))); have n1_ := M_ (blk_below (g := gb452) (o := .cells #[.int .i64 a1_0, .int .i64 a1_1] 41 (0, 0)) (by (with_reducible repeat (first | refine kn_ ?_ _ | refine kd_ ?_ | refine ka_ ?_ _)); exact BK452.out) hb); have n2_ := M_ (below_step (by repeat (first | (with_reducible first | exact HB.out | apply ba_ | apply bn_ | apply b1_ | refine bs_ ?_ GE452.out) | exact HB.out)) hb); clear BK452; clear HB; have HO457 := n0_; have BK452 := n1_; have HB := n2_; clear n0_ n1_ n2_; (try clear hb); (try clear hb2); (try clear hk); (try clear hi); (try clear ho0)))
    repeat (go_quiet (first | (go_at_call 69; (with_reducible refine (clone_Change.calls _ _ l0 t455 _ ?side1 ?side2 A13.out).mono ?_); (case side1 => exact cU_ (Kd.C_below HR0.out HB.out)); (case side2 => exact HC0.out); rintro e w15 ⟨v456, rfl, ho0, hb⟩; have n0_ := M_ (Kd.R_lower (Kd.R_newB ho0 (g := gb452) (o := .cells #[.int .i64 a1_0, .int .i64 a1_1] 41 (0, 0)) (by (with_reducible repeat (first | refine kn_ ?_ _ | refine kd_ ?_ | refine ka_ ?_ _)); exact BK452.out)) (below_size (by repeat (first | (with_reducible first | exact HB.out | apply ba_ | apply bn_ | apply b1_ | refine bs_ ?_ GE452.out) | exact HB.out)))); have n1_ := M_ (blk_below (g := gb452) (o := .cells #[.int .i64 a1_0, .int .i64 a1_1] 41 (0, 0)) (by (with_reducible repeat (first | refine kn_ ?_ _ | refine kd_ ?_ | refine ka_ ?_ _)); exact BK452.out) hb); have n2_ := M_ (below_step (by repeat (first | (with_reducible first | exact HB.out | apply ba_ | apply bn_ | apply b1_ | refine bs_ ?_ GE452.out) | exact HB.out)) hb); clear BK452; clear HB; have HO457 := n0_; have BK452 := n1_; have HB := n2_; clear n0_ n1_ n2_; (try clear hb); (try clear hb2); (try clear hk); (try clear hi); (try clear ho0))); go_upto_block 0 with (first | (go_at_call 69; (with_reducible refine (clone_Change.calls _ _ l0 t455 _ ?side1 ?side2 A13.out).mono ?_); (case side1 => exact cU_ (Kd.C_below HR0.out HB.out)); (case side2 => exact HC0.out); rintro e w15 ⟨v456, rfl, ho0, hb⟩; have n0_ := M_ (Kd.R_lower (Kd.R_newB ho0 (g := gb452) (o := .cells #[.int .i64 a1_0, .int .i64 a1_1] 41 (0, 0)) (by (with_reducible repeat (first | refine kn_ ?_ _ | refine kd_ ?_ | refine ka_ ?_ _)); exact BK452.out)) (below_size (by repeat (first | (with_reducible first | exact HB.out | apply ba_ | apply bn_ | apply b1_ | refine bs_ ?_ GE452.out) | exact HB.out)))); have n1_ := M_ (blk_below (g := gb452) (o := .cells #[.int .i64 a1_0, .int .i64 a1_1] 41 (0, 0)) (by (with_reducible repeat (first | refine kn_ ?_ _ | refine kd_ ?_ | refine ka_ ?_ _)); exact BK452.out) hb); have n2_ := M_ (below_step (by repeat (first | (with_reducible first | exact HB.out | apply ba_ | apply bn_ | apply b1_ | refine bs_ ?_ GE452.out) | exact HB.out)) hb); clear BK452; clear HB; have HO457 := n0_; have BK452 := n1_; have HB := n2_; clear n0_ n1_ n2_; (try clear hb); (try clear hb2); (try clear hk); (try clear hi); (try clear ho0))))
    (try simp only [Act.put, la_, lb_, lc_])
    go_cut [7] (fun v7 wc => ∃ (kq : Nat) (x7_13 : Int), v7 = .int .i64 x7_13 ∧ Aside0 (impl_AddTempo.j2 kq t455 x7_13 a1_0 a1_1 = some (r1, r2)) ∧ Aside0 (kq ≤ kj2) ∧ Aside0 (Kd.R k41 41 wc w.heap.size (fun k_ => k_ ≠ gb452) v456 t455) ∧ Aside0 (wc.heap[gb452]? = some (.cells #[.int .i64 a1_0, .int .i64 a1_1] 41 (0, 0))) ∧ Aside0 (Below w.heap.size w wc))
    case first =>
     have H := HC14.out
     clear HC14
     have H' := M_ H
     clear H
     go_wp2
     repeat (go_quiet (fail); try go_wp2)
     go_loopg [7] kj2 (fun kq v7 w' => ∃ (x7_2 : Int), v7 = .int .i64 x7_2 ∧ Aside0 (impl_AddTempo.l0 kq t455 x7_2 a1_0 a1_1 = some (r1, r2)) ∧ Aside0 (kq ≤ kj2) ∧ Aside0 (Kd.R k41 41 w' w.heap.size (fun k_ => k_ ≠ gb452) v456 t455) ∧ Aside0 (w'.heap[gb452]? = some (.cells #[.int .i64 a1_0, .int .i64 a1_1] 41 (0, 0))) ∧ Aside0 (Below w.heap.size w w'))
     case atStart => exact ⟨(0), (by first | rfl | (simp; done) | (simp [*]; done)), H', ⟨Nat.le_refl _⟩, ⟨by (with_reducible repeat (first | apply ra_ | apply rn_ | apply rd_)); exact rm_ HO457.out (fun _ hk => hk.2)⟩, ⟨by (with_reducible repeat (first | refine kn_ ?_ _ | refine kd_ ?_ | refine ka_ ?_ _)); exact BK452.out⟩, ⟨by repeat (first | (with_reducible first | exact HB.out | apply ba_ | apply bn_ | apply b1_ | refine bs_ ?_ GE452.out) | exact HB.out)⟩⟩
     case round =>
      clear H'
      try clear c1
      try clear c2
      try clear p2
      try clear c6
      try clear c12
      try clear hcz9_0
      try clear hcz9_1
      try clear hfz9_0
      try clear hfz9_1
      try clear p2
      obtain ⟨x7_2, rfl, HA, HK2, HO_6, BK452, HB⟩ := hrel
      cases gk with
      | zero => exact absurd HA.out (by simp [impl_AddTempo.l0])
      | succ k2 =>
       have H := HA.out
       clear HA
       simp only [impl_AddTempo.l0] at H
       by_cases c16 : x7_2 < (t455.length : Int)
       ·rw [if_pos c16] at H
        have c16b0 : decide (x7_2 < (t455.length : Int)) = true := decide_eq_true c16
        clear c16
        (first | rw [c16b0] | (simp only [i64_w, i32_w]; rw [c16b0]) | skip)
        by_cases c17 : 0 ≤ x7_2
        ·rw [if_pos c17] at H
         have c17b0 : decide (0 ≤ x7_2) = true := decide_eq_true c17
         clear c17
         by_cases c18 : ((rd_T41 t455 x7_2).f0) < a1_0
         ·rw [if_pos c18] at H
          have c18b0 : decide (((rd_T41 t455 x7_2).f0) < a1_0) = true := decide_eq_true c18
          clear c18
          have H' := M_ H
          clear H
          obtain ⟨Ao19, co19, eo19⟩ := Kd.R_slice HO_6.out
          subst eo19
          have p458 : 0 ≤ (x7_2 : Int) := dT_
          have q458 : x7_2 < (t455.length : Int) := dT_
          obtain ⟨ad458, e458, hx458_0, hx458_1⟩ := at_T41 (Kd.R_reads' HO_6.out).2.2 x7_2 p458 q458
          cases e458
          replace p458 := eq_true p458
          replace q458 := eq_true q458
          have hcz20_0 : wr.cell? ⟨gb452, 0, none⟩ = some (.int .i64 a1_0) := (blk_cell BK452.out 0).trans rfl
          have hcz20_1 : wr.cell? ⟨gb452, 1, none⟩ = some (.int .i64 a1_1) := (blk_cell BK452.out 1).trans rfl
          have hfz20_0 := blk_frozen BK452.out 0
          have hfz20_1 := blk_frozen BK452.out 1
          go_wp2
          repeat (go_quiet (fail); try go_wp2)
          go_roundg k2
          case measure => have := HJ2.out; have := HK2.out; omega
          case rel => exact ⟨(wrap64 (x7_2 + 1)), (by first | rfl | (simp; done) | (simp [*]; done)), H', ⟨by have := HJ2.out; have := HK2.out; omega⟩, ⟨by (with_reducible repeat (first | apply ra_ | apply rn_ | apply rd_)); exact HO_6.out⟩, ⟨by (with_reducible repeat (first | refine kn_ ?_ _ | refine kd_ ?_ | refine ka_ ?_ _)); exact BK452.out⟩, ⟨by repeat (first | (with_reducible first | exact HB.out | apply ba_ | apply bn_ | apply b1_ | refine bs_ ?_ GE452.out) | exact HB.out)⟩⟩
         ·rw [if_neg c18] at H
          have c18b0 : decide (((rd_T41 t455 x7_2).f0) < a1_0) = false := decide_eq_false c18
          clear c18
          have H' := M_ H
          clear H
          obtain ⟨Ao21, co21, eo21⟩ := Kd.R_slice HO_6.out
          subst eo21
          have p458 : 0 ≤ (x7_2 : Int) := dT_
          have q458 : x7_2 < (t455.length : Int) := dT_
          obtain ⟨ad458, e458, hx458_0, hx458_1⟩ := at_T41 (Kd.R_reads' HO_6.out).2.2 x7_2 p458 q458
          cases e458
          replace p458 := eq_true p458
          replace q458 := eq_true q458
          have hcz22_0 : wr.cell? ⟨gb452, 0, none⟩ = some (.int .i64 a1_0) := (blk_cell BK452.out 0).trans rfl
          have hcz22_1 : wr.cell? ⟨gb452, 1, none⟩ = some (.int .i64 a1_1) := (blk_cell BK452.out 1).trans rfl
          have hfz22_0 := blk_frozen BK452.out 0
          have hfz22_1 := blk_frozen BK452.out 1
          go_wp2
          repeat (go_quiet (fail); try go_wp2)
          go_meet
          case rel => exact ⟨_, (x7_2), (by first | rfl | (simp; done) | (simp [*]; done)), H', ⟨by have := HJ2.out; have := HK2.out; first | omega | exact Nat.le_refl _⟩, ⟨by (with_reducible repeat (first | apply ra_ | apply rn_ | apply rd_)); exact HO_6.out⟩, ⟨by (with_reducible repeat (first | refine kn_ ?_ _ | refine kd_ ?_ | refine ka_ ?_ _)); exact BK452.out⟩, ⟨by repeat (first | (with_reducible first | exact HB.out | apply ba_ | apply bn_ | apply b1_ | refine bs_ ?_ GE452.out) | exact HB.out)⟩⟩
        ·rw [if_neg c17] at H
         exact absurd H (by simp)
       ·rw [if_neg c16] at H
        have c16b0 : decide (x7_2 < (t455.length : Int)) = false := decide_eq_false c16
        clear c16
        (first | rw [c16b0] | (simp only [i64_w, i32_w]; rw [c16b0]) | skip)
        have H' := M_ H
        clear H
        obtain ⟨Ao23, co23, eo23⟩ := Kd.R_slice HO_6.out
        subst eo23
        go_wp2
        repeat (go_quiet (fail); try go_wp2)
        go_meet
        case rel => exact ⟨_, (x7_2), (by first | rfl | (simp; done) | (simp [*]; done)), H', ⟨by have := HJ2.out; have := HK2.out; first | omega | exact Nat.le_refl _⟩, ⟨by (with_reducible repeat (first | apply ra_ | apply rn_ | apply rd_)); exact HO_6.out⟩, ⟨by (with_reducible repeat (first | refine kn_ ?_ _ | refine kd_ ?_ | refine ka_ ?_ _)); exact BK452.out⟩, ⟨by repeat (first | (with_reducible first | exact HB.out | apply ba_ | apply bn_ | apply b1_ | refine bs_ ?_ GE452.out) | exact HB.out)⟩⟩
    case rest =>
     clear HC14
     try clear c1
     try clear c2
     try clear p2
     try clear p4
     try clear q4
     try clear hx4
     try clear c6
     try clear p6
     try clear c12
     try clear c16
     try clear c16b0
     try clear c17
     try clear c17b0
     try clear c18
     try clear c18b0
     try clear hcz20_0
     try clear hcz20_1
     try clear hcz22_0
     try clear hcz22_1
     try clear hcz9_0
     try clear hcz9_1
     try clear hfz20_0
     try clear hfz20_1
     try clear hfz22_0
     try clear hfz22_1
     try clear hfz9_0
     try clear hfz9_1
     try clear hx458_0
     try clear hx458_1
     try clear p2
     try clear p458
     try clear q458
     obtain ⟨kq, x7_13, rfl, HA, HJ13, HO_6, BK452, HB⟩ := hcut
     cases kq with
     | zero => exact absurd HA.out (by simp [impl_AddTempo.j2])
     | succ kj13 =>
      have H := HA.out
      clear HA
      simp only [impl_AddTempo.j2] at H
      have HC24 := M_ H
      clear H
      go_upto_region 7 with (fail)
      repeat (go_quiet (fail); go_upto_region 7 with (fail))
      go_cut [47] (fun v47 wc => ∃ (kq : Nat) (x47_23 : Bool), v47 = .bool x47_23 ∧ Aside0 (impl_AddTempo.j3 kq t455 x7_13 x47_23 a1_0 a1_1 = some (r1, r2)) ∧ Aside0 (kq ≤ kj13) ∧ Aside0 (Kd.R k41 41 wc w.heap.size (fun k_ => k_ ≠ gb452) v456 t455) ∧ Aside0 (wc.heap[gb452]? = some (.cells #[.int .i64 a1_0, .int .i64 a1_1] 41 (0, 0))) ∧ Aside0 (Below w.heap.size w wc))
      case first =>
       have H := HC24.out
       clear HC24
       by_cases c25 : x7_13 < (t455.length : Int)
       ·rw [if_pos c25] at H
        have c25b0 : decide (x7_13 < (t455.length : Int)) = true := decide_eq_true c25
        clear c25
        (first | rw [c25b0] | (simp only [i64_w, i32_w]; rw [c25b0]) | skip)
        by_cases c26 : 0 ≤ x7_13
        ·rw [if_pos c26] at H
         have c26b0 : decide (0 ≤ x7_13) = true := decide_eq_true c26
         clear c26
         have H' := M_ H
         clear H
         obtain ⟨Ao27, co27, eo27⟩ := Kd.R_slice HO_6.out
         subst eo27
         have p459 : 0 ≤ (x7_13 : Int) := dT_
         have q459 : x7_13 < (t455.length : Int) := dT_
         obtain ⟨ad459, e459, hx459_0, hx459_1⟩ := at_T41 (Kd.R_reads' HO_6.out).2.2 x7_13 p459 q459
         cases e459
         replace p459 := eq_true p459
         replace q459 := eq_true q459
         have hcz28_0 : wc.cell? ⟨gb452, 0, none⟩ = some (.int .i64 a1_0) := (blk_cell BK452.out 0).trans rfl
         have hcz28_1 : wc.cell? ⟨gb452, 1, none⟩ = some (.int .i64 a1_1) := (blk_cell BK452.out 1).trans rfl
         have hfz28_0 := blk_frozen BK452.out 0
         have hfz28_1 := blk_frozen BK452.out 1
         go_wp2
         repeat (go_quiet (fail); try go_wp2)
         go_meet
         case rel => exact ⟨_, ((((rd_T41 t455 x7_13).f0) == a1_0)), (by first | rfl | (simp; done) | (simp [*]; done)), H', ⟨by have := HJ2.out; have := HJ13.out; first | omega | exact Nat.le_refl _⟩, ⟨by (with_reducible repeat (first | apply ra_ | apply rn_ | apply rd_)); exact HO_6.out⟩, ⟨by (with_reducible repeat (first | refine kn_ ?_ _ | refine kd_ ?_ | refine ka_ ?_ _)); exact BK452.out⟩, ⟨by repeat (first | (with_reducible first | exact HB.out | apply ba_ | apply bn_ | apply b1_ | refine bs_ ?_ GE452.out) | exact HB.out)⟩⟩
        ·rw [if_neg c26] at H
         exact absurd H (by simp)
       ·rw [if_neg c25] at H
        have c25b0 : decide (x7_13 < (t455.length : Int)) = false := decide_eq_false c25
        clear c25
        (first | rw [c25b0] | (simp only [i64_w, i32_w]; rw [c25b0]) | skip)
        have H' := M_ H
        clear H
        obtain ⟨Ao29, co29, eo29⟩ := Kd.R_slice HO_6.out
        subst eo29
        go_wp2
        repeat (go_quiet (fail); try go_wp2)
        go_meet
        case rel => exact ⟨_, (false), (by first | rfl | (simp; done) | (simp [*]; done)), H', ⟨by have := HJ2.out; have := HJ13.out; first | omega | exact Nat.le_refl _⟩, ⟨by (with_reducible repeat (first | apply ra_ | apply rn_ | apply rd_)); exact HO_6.out⟩, ⟨by (with_reducible repeat (first | refine kn_ ?_ _ | refine kd_ ?_ | refine ka_ ?_ _)); exact BK452.out⟩, ⟨by repeat (first | (with_reducible first | exact HB.out | apply ba_ | apply bn_ | apply b1_ | refine bs_ ?_ GE452.out) | exact HB.out)⟩⟩
      case rest =>
       clear HC24
       try clear c1
       try clear c2
       try clear p2
       try clear p4
       try clear q4
       try clear hx4
       try clear c6
       try clear p6
       try clear c12
       try clear c16
       try clear c16b0
       try clear c17
       try clear c17b0
       try clear c18
       try clear c18b0
       try clear c25
       try clear c25b0
       try clear c26
       try clear c26b0
       try clear c29
       try clear hcz20_0
       try clear hcz20_1
       try clear hcz22_0
       try clear hcz22_1
       try clear hcz28_0
       try clear hcz28_1
       try clear hcz9_0
       try clear hcz9_1
       try clear hfz20_0
       try clear hfz20_1
       try clear hfz22_0
       try clear hfz22_1
       try clear hfz28_0
       try clear hfz28_1
       try clear hfz9_0
       try clear hfz9_1
       try clear hx458_0
       try clear hx458_1
       try clear hx459_0
       try clear hx459_1
       try clear p2
       try clear p4
       try clear p458
       try clear p459
       try clear p6
       try clear q4
       try clear q458
       try clear q459
       obtain ⟨kq, x47_23, rfl, HA, HJ23, HO_6, BK452, HB⟩ := hcut
       cases kq with
       | zero => exact absurd HA.out (by simp [impl_AddTempo.j3])
       | succ kj23 =>
        have H := HA.out
        clear HA
        simp only [impl_AddTempo.j3] at H
        by_cases c30 : x47_23 = true
        ·subst c30
         have H1 : (if 0 ≤ x7_13 then (if x7_13 < (t455.length : Int) then (some ((t455.set (x7_13 : Int).toNat (⟨a1_0, a1_1⟩ : S41)), true)) else (none)) else (none)) = some (r1, r2) := by rw [if_pos rfl] at H; exact H
         clear H
         have H := H1
         clear H1
         by_cases c31 : 0 ≤ x7_13
         ·rw [if_pos c31] at H
          have c31b0 : decide (0 ≤ x7_13) = true := decide_eq_true c31
          clear c31
          by_cases c32 : x7_13 < (t455.length : Int)
          ·rw [if_pos c32] at H
           have c32b0 : decide (x7_13 < (t455.length : Int)) = true := decide_eq_true c32
           clear c32
           obtain ⟨y460, hy460⟩ : ∃ y_ : List (S41), y_ = (t455.set (x7_13 : Int).toNat (⟨a1_0, a1_1⟩ : S41)) := ⟨_, rfl⟩
           replace H : (some (y460, true)) = some (r1, r2) := by first | (rw [hy460]; with_reducible exact H) | (have H2_ := (Option.bind_some _ _).symm.trans H; rw [hy460]; with_reducible exact H2_) | (have H2_ := (Option.bind_some _ _).symm.trans H; with_reducible exact H2_) | with_reducible exact H | (rw [hy460]; exact H) | exact H
           have Ny460 := M_ hy460
           clear hy460
           simp only [Option.some.injEq, Prod.mk.injEq] at H
           obtain ⟨rfl, rfl⟩ := H
           have hcz34_0 : wc.cell? ⟨gb452, 0, none⟩ = some (.int .i64 a1_0) := (blk_cell BK452.out 0).trans rfl
           have hcz34_1 : wc.cell? ⟨gb452, 1, none⟩ = some (.int .i64 a1_1) := (blk_cell BK452.out 1).trans rfl
           have hfz34_0 := blk_frozen BK452.out 0
           have hfz34_1 := blk_frozen BK452.out 1
           have p33 : 0 ≤ (x7_13 : Int) := dT_
           have q33 : (x7_13 : Int) < ((t455.length : Int) : Int) := dT_
           obtain ⟨go33, co33, eo33, gb33, gl33, cl33, HG33⟩ := Kd.R_form HO_6.out (by omega)
           (first | cases eo33 | (injection eo33 with ea_ en_ ec_; (first | subst ea_ | (injection ea_ with ea_; subst ea_)); subst ec_; clear en_))
           have GB33 := M_ gb33
           have GG33 := M_ HG33
           clear gb33 gl33 HG33
           obtain ⟨ce33, hcl33, hM33, hcc33, hfr33⟩ := Kd.R_elem HO_6.out z41 (x7_13 : Int) p33 q33
           obtain rfl := k41_openM hM33
           have hx33_0 : wc.cell? ⟨go33, (x7_13 : Int).toNat * 2, none⟩ = some (.int .i64 ((rd_T41 t455 x7_13).f0)) := hcc33 0 _ rfl
           have hx33_1 : wc.cell? ⟨go33, (x7_13 : Int).toNat * 2 + 1, none⟩ = some (.int .i64 ((rd_T41 t455 x7_13).f1)) := hcc33 1 _ rfl
           have hf33_0 : wc.frozen? ⟨go33, (x7_13 : Int).toNat * 2, none⟩ = false := hfr33 0
           have hf33_1 : wc.frozen? ⟨go33, (x7_13 : Int).toNat * 2 + 1, none⟩ = false := hfr33 1
           clear hcl33 hcc33 hfr33 hM33
           replace p33 := eq_true p33
           replace q33 := eq_true q33
           have HX35 := M_ (show Kd.R k41 41 wc w.heap.size (fun k_ => k_ ≠ gb452) (.slice (some ⟨go33, 0, none⟩) t455.length co33) t455 from (rU_ HO_6.out))
           obtain ⟨ce35, hcl35, hM35, hcc35, hfr35⟩ := Kd.R_elem HX35.out z41 (x7_13 : Int) (dT_) (by have h_ : (x7_13 : Int) < ((t455.length : Int) : Int) := dT_; first | exact h_ | (have e_ := (Kd.R_reads' HO_6.out).1; omega) | simpa using h_)
           obtain rfl := k41_openM hM35
           have HP35 := Kd.R_seg HX35.out (x7_13 : Int) (dT_) (by have h_ : (x7_13 : Int) < ((t455.length : Int) : Int) := dT_; first | exact h_ | (have e_ := (Kd.R_reads' HO_6.out).1; omega) | simpa using h_) (seg := [.int .i64 a1_0, .int .i64 a1_1]) (j := 0) hcl35 hcc35 (show 2 ≤ 2 from by decide) (x' := (⟨a1_0, a1_1⟩ : S41)) (k41_mkM _ _ _ (⟨a1_0, a1_1⟩ : S41) ) (fun _ hk => hk)
           have hx35_0 := hcc35 0 _ rfl
           (try simp only [show (k41).sz = 2 from rfl, Nat.mul_one, Nat.add_zero] at hx35_0)
           have hf35_0 := hfr35 0
           (try simp only [show (k41).sz = 2 from rfl, Nat.mul_one, Nat.add_zero] at hf35_0)
           have hx35_1 := hcc35 1 _ rfl
           (try simp only [show (k41).sz = 2 from rfl, Nat.mul_one, Nat.add_zero] at hx35_1)
           have hf35_1 := hfr35 1
           (try simp only [show (k41).sz = 2 from rfl, Nat.mul_one, Nat.add_zero] at hf35_1)
           clear hcl35 hcc35 hfr35 hM35
           go_wp2_with (first | ((with_reducible refine gate_store (t := 41) (p := 51) rfl ?_); (try (rw [drewN_self wc]; generalize hq_ : World.drewN wc _ = wc; have n0_ := M_ (Kd.R_at hq_ HO_6.out); have n1_ := M_ (blk_at hq_ BK452.out); have n2_ := M_ (below_at hq_ HB.out); clear hq_ HO_6 BK452 HB; have HO_6 := n0_; have BK452 := n1_; have HB := n2_; clear n0_ n1_ n2_; (try (have HX35 := M_ (show Kd.R k41 41 wc w.heap.size (fun k_ => k_ ≠ gb452) (.slice (some ⟨go33, 0, none⟩) t455.length co33) t455 from (rU_ HO_6.out)))); (try (obtain ⟨ce35, hcl35, hM35, hcc35, hfr35⟩ := Kd.R_elem HX35.out z41 (x7_13 : Int) (dT_) (by have h_ : (x7_13 : Int) < ((t455.length : Int) : Int) := dT_; first | exact h_ | (have e_ := (Kd.R_reads' HO_6.out).1; omega) | simpa using h_))); (try (obtain rfl := k41_openM hM35)); (try (have HP35 := Kd.R_seg HX35.out (x7_13 : Int) (dT_) (by have h_ : (x7_13 : Int) < ((t455.length : Int) : Int) := dT_; first | exact h_ | (have e_ := (Kd.R_reads' HO_6.out).1; omega) | simpa using h_) (seg := [.int .i64 a1_0, .int .i64 a1_1]) (j := 0) hcl35 hcc35 (show 2 ≤ 2 from by decide) (x' := (⟨a1_0, a1_1⟩ : S41)) (k41_mkM _ _ _ (⟨a1_0, a1_1⟩ : S41) ) (fun _ hk => hk))); (try (have hx35_0 := hcc35 0 _ rfl)); (try (try simp only [show (k41).sz = 2 from rfl, Nat.mul_one, Nat.add_zero] at hx35_0)); (try (have hf35_0 := hfr35 0)); (try (try simp only [show (k41).sz = 2 from rfl, Nat.mul_one, Nat.add_zero] at hf35_0)); (try (have hx35_1 := hcc35 1 _ rfl)); (try (try simp only [show (k41).sz = 2 from rfl, Nat.mul_one, Nat.add_zero] at hx35_1)); (try (have hf35_1 := hfr35 1)); (try (try simp only [show (k41).sz = 2 from rfl, Nat.mul_one, Nat.add_zero] at hf35_1)); (try (clear hcl35 hcc35 hfr35 hM35)))); refine store_event (t := 41) (p := 51) (v := ?vo_w36) (w1 := ((wc.setCell ⟨go33, (x7_13 : Int).toNat * 2, none⟩ (.int .i64 a1_0)).setCell ⟨go33, (x7_13 : Int).toNat * 2 + 1, none⟩ (.int .i64 a1_1))) ?hg ?ho ?hn ?hr ?_; (case ho => rfl); (case hg => rfl); (case hn => rfl); (case hr => first | (go_simp; done) | (go_simp; rfl)); intro w36 hw; have hg : wc.grownBy w36 (some go33) := (by rw [hw]; exact HP35.2); have hp_ : Kd.R k41 41 w36 w.heap.size (fun k_ => k_ ≠ gb452) (.slice (some ⟨go33, 0, none⟩) t455.length co33) y460 := (by rw [hw, Ny460.out]; exact HP35.1); clear HP35; have n0_ := M_ (hp_); have n1_ := M_ (blk_grown (g := gb452) (o := .cells #[.int .i64 a1_0, .int .i64 a1_1] 41 (0, 0)) (by (with_reducible repeat (first | refine kn_ ?_ _ | refine kd_ ?_ | refine ka_ ?_ _)); exact BK452.out) hg (Kd.R_away HO_6.out (fun _ hk => hk))); have n2_ := M_ ((by rw [hw]; exact bs_ (bs_ (HB.out) GB33.out) GB33.out : Below w.heap.size w w36)); clear HO_6; clear BK452; clear HB; have HO_6 := n0_; have BK452 := n1_; have HB := n2_; clear n0_ n1_ n2_; clear hg hw hp_))
           repeat (go_quiet (first | ((with_reducible refine gate_store (t := 41) (p := 51) rfl ?_); (try (rw [drewN_self wc]; generalize hq_ : World.drewN wc _ = wc; have n0_ := M_ (Kd.R_at hq_ HO_6.out); have n1_ := M_ (blk_at hq_ BK452.out); have n2_ := M_ (below_at hq_ HB.out); clear hq_ HO_6 BK452 HB; have HO_6 := n0_; have BK452 := n1_; have HB := n2_; clear n0_ n1_ n2_; (try (have HX35 := M_ (show Kd.R k41 41 wc w.heap.size (fun k_ => k_ ≠ gb452) (.slice (some ⟨go33, 0, none⟩) t455.length co33) t455 from (rU_ HO_6.out)))); (try (obtain ⟨ce35, hcl35, hM35, hcc35, hfr35⟩ := Kd.R_elem HX35.out z41 (x7_13 : Int) (dT_) (by have h_ : (x7_13 : Int) < ((t455.length : Int) : Int) := dT_; first | exact h_ | (have e_ := (Kd.R_reads' HO_6.out).1; omega) | simpa using h_))); (try (obtain rfl := k41_openM hM35)); (try (have HP35 := Kd.R_seg HX35.out (x7_13 : Int) (dT_) (by have h_ : (x7_13 : Int) < ((t455.length : Int) : Int) := dT_; first | exact h_ | (have e_ := (Kd.R_reads' HO_6.out).1; omega) | simpa using h_) (seg := [.int .i64 a1_0, .int .i64 a1_1]) (j := 0) hcl35 hcc35 (show 2 ≤ 2 from by decide) (x' := (⟨a1_0, a1_1⟩ : S41)) (k41_mkM _ _ _ (⟨a1_0, a1_1⟩ : S41) ) (fun _ hk => hk))); (try (have hx35_0 := hcc35 0 _ rfl)); (try (try simp only [show (k41).sz = 2 from rfl, Nat.mul_one, Nat.add_zero] at hx35_0)); (try (have hf35_0 := hfr35 0)); (try (try simp only [show (k41).sz = 2 from rfl, Nat.mul_one, Nat.add_zero] at hf35_0)); (try (have hx35_1 := hcc35 1 _ rfl)); (try (try simp only [show (k41).sz = 2 from rfl, Nat.mul_one, Nat.add_zero] at hx35_1)); (try (have hf35_1 := hfr35 1)); (try (try simp only [show (k41).sz = 2 from rfl, Nat.mul_one, Nat.add_zero] at hf35_1)); (try (clear hcl35 hcc35 hfr35 hM35)))); refine store_event (t := 41) (p := 51) (v := ?vo_w36) (w1 := ((wc.setCell ⟨go33, (x7_13 : Int).toNat * 2, none⟩ (.int .i64 a1_0)).setCell ⟨go33, (x7_13 : Int).toNat * 2 + 1, none⟩ (.int .i64 a1_1))) ?hg ?ho ?hn ?hr ?_; (case ho => rfl); (case hg => rfl); (case hn => rfl); (case hr => first | (go_simp; done) | (go_simp; rfl)); intro w36 hw; have hg : wc.grownBy w36 (some go33) := (by rw [hw]; exact HP35.2); have hp_ : Kd.R k41 41 w36 w.heap.size (fun k_ => k_ ≠ gb452) (.slice (some ⟨go33, 0, none⟩) t455.length co33) y460 := (by rw [hw, Ny460.out]; exact HP35.1); clear HP35; have n0_ := M_ (hp_); have n1_ := M_ (blk_grown (g := gb452) (o := .cells #[.int .i64 a1_0, .int .i64 a1_1] 41 (0, 0)) (by (with_reducible repeat (first | refine kn_ ?_ _ | refine kd_ ?_ | refine ka_ ?_ _)); exact BK452.out) hg (Kd.R_away HO_6.out (fun _ hk => hk))); have n2_ := M_ ((by rw [hw]; exact bs_ (bs_ (HB.out) GB33.out) GB33.out : Below w.heap.size w w36)); clear HO_6; clear BK452; clear HB; have HO_6 := n0_; have BK452 := n1_; have HB := n2_; clear n0_ n1_ n2_; clear hg hw hp_)); try go_wp2_with (first | ((with_reducible refine gate_store (t := 41) (p := 51) rfl ?_); (try (rw [drewN_self wc]; generalize hq_ : World.drewN wc _ = wc; have n0_ := M_ (Kd.R_at hq_ HO_6.out); have n1_ := M_ (blk_at hq_ BK452.out); have n2_ := M_ (below_at hq_ HB.out); clear hq_ HO_6 BK452 HB; have HO_6 := n0_; have BK452 := n1_; have HB := n2_; clear n0_ n1_ n2_; (try (have HX35 := M_ (show Kd.R k41 41 wc w.heap.size (fun k_ => k_ ≠ gb452) (.slice (some ⟨go33, 0, none⟩) t455.length co33) t455 from (rU_ HO_6.out)))); (try (obtain ⟨ce35, hcl35, hM35, hcc35, hfr35⟩ := Kd.R_elem HX35.out z41 (x7_13 : Int) (dT_) (by have h_ : (x7_13 : Int) < ((t455.length : Int) : Int) := dT_; first | exact h_ | (have e_ := (Kd.R_reads' HO_6.out).1; omega) | simpa using h_))); (try (obtain rfl := k41_openM hM35)); (try (have HP35 := Kd.R_seg HX35.out (x7_13 : Int) (dT_) (by have h_ : (x7_13 : Int) < ((t455.length : Int) : Int) := dT_; first | exact h_ | (have e_ := (Kd.R_reads' HO_6.out).1; omega) | simpa using h_) (seg := [.int .i64 a1_0, .int .i64 a1_1]) (j := 0) hcl35 hcc35 (show 2 ≤ 2 from by decide) (x' := (⟨a1_0, a1_1⟩ : S41)) (k41_mkM _ _ _ (⟨a1_0, a1_1⟩ : S41) ) (fun _ hk => hk))); (try (have hx35_0 := hcc35 0 _ rfl)); (try (try simp only [show (k41).sz = 2 from rfl, Nat.mul_one, Nat.add_zero] at hx35_0)); (try (have hf35_0 := hfr35 0)); (try (try simp only [show (k41).sz = 2 from rfl, Nat.mul_one, Nat.add_zero] at hf35_0)); (try (have hx35_1 := hcc35 1 _ rfl)); (try (try simp only [show (k41).sz = 2 from rfl, Nat.mul_one, Nat.add_zero] at hx35_1)); (try (have hf35_1 := hfr35 1)); (try (try simp only [show (k41).sz = 2 from rfl, Nat.mul_one, Nat.add_zero] at hf35_1)); (try (clear hcl35 hcc35 hfr35 hM35)))); refine store_event (t := 41) (p := 51) (v := ?vo_w36) (w1 := ((wc.setCell ⟨go33, (x7_13 : Int).toNat * 2, none⟩ (.int .i64 a1_0)).setCell ⟨go33, (x7_13 : Int).toNat * 2 + 1, none⟩ (.int .i64 a1_1))) ?hg ?ho ?hn ?hr ?_; (case ho => rfl); (case hg => rfl); (case hn => rfl); (case hr => first | (go_simp; done) | (go_simp; rfl)); intro w36 hw; have hg : wc.grownBy w36 (some go33) := (by rw [hw]; exact HP35.2); have hp_ : Kd.R k41 41 w36 w.heap.size (fun k_ => k_ ≠ gb452) (.slice (some ⟨go33, 0, none⟩) t455.length co33) y460 := (by rw [hw, Ny460.out]; exact HP35.1); clear HP35; have n0_ := M_ (hp_); have n1_ := M_ (blk_grown (g := gb452) (o := .cells #[.int .i64 a1_0, .int .i64 a1_1] 41 (0, 0)) (by (with_reducible repeat (first | refine kn_ ?_ _ | refine kd_ ?_ | refine ka_ ?_ _)); exact BK452.out) hg (Kd.R_away HO_6.out (fun _ hk => hk))); have n2_ := M_ ((by rw [hw]; exact bs_ (bs_ (HB.out) GB33.out) GB33.out : Below w.heap.size w w36)); clear HO_6; clear BK452; clear HB; have HO_6 := n0_; have BK452 := n1_; have HB := n2_; clear n0_ n1_ n2_; clear hg hw hp_)))
           go_ret2
           exact ⟨_, by first | rfl | (simp [errW_none, errW_some] <;> rfl) | (simp [*, errW_none, errW_some] <;> rfl), by (with_reducible repeat (first | apply ra_ | apply rn_ | apply rd_)); exact rm_ HO_6.out (fun _ hk => trivial), by repeat (first | (with_reducible first | exact HB.out | apply ba_ | apply bn_ | apply b1_ | refine bs_ ?_ GE452.out) | exact HB.out)⟩
          ·rw [if_neg c32] at H
           exact absurd H (by simp)
         ·rw [if_neg c31] at H
          exact absurd H (by simp)
        ·replace c30 := Bool.eq_false_iff.mpr c30
         subst c30
         have H1 : (if (t455.length : Int) = 20 then (some (([] : List (S41)), false)) else ((insert_Change.f t455 x7_13 (([(⟨a1_0, a1_1⟩ : S41)] : List (S41)))).bind fun t464 => (some (t464, true)))) = some (r1, r2) := by rw [if_neg (show ¬ (false = true) by decide)] at H; exact H
         clear H
         have H := H1
         clear H1
         by_cases c37 : (t455.length : Int) = 20
         ·rw [if_pos c37] at H
          have c37b0 : ((t455.length : Int) == 20) = true := beq_iff_eq.mpr c37
          have c37b1 : ((t455.length : Int) != 20) = false := bne_eq_false_iff_eq.mpr c37
          clear c37
          simp only [Option.some.injEq, Prod.mk.injEq] at H
          obtain ⟨rfl, rfl⟩ := H
          obtain ⟨Ao38, co38, eo38⟩ := Kd.R_slice HO_6.out
          subst eo38
          go_wp2
          repeat (go_quiet (fail); try go_wp2)
          go_ret2
          exact ⟨_, by first | rfl | (simp [errW_none, errW_some] <;> rfl) | (simp [*, errW_none, errW_some] <;> rfl), by first | exact Kd.R_nil _ _ _ _ _ | exact Kd.N_nil _ _ _ _ _ | exact Kd.V_nil _ _ _ _ _ | exact Kd.Q_nil _ _ _ _ _ | exact Kd.S_nil _ _ _ _ _, by repeat (first | (with_reducible first | exact HB.out | apply ba_ | apply bn_ | apply b1_ | refine bs_ ?_ GE452.out) | exact HB.out)⟩
         ·rw [if_neg c37] at H
          have c37b0 : ((t455.length : Int) == 20) = false := beq_eq_false_iff_ne.mpr c37
          have c37b1 : ((t455.length : Int) != 20) = true := bne_iff_ne.mpr c37
          obtain ⟨y461, hy461⟩ : ∃ y_ : List (S41), y_ = (([(⟨a1_0, a1_1⟩ : S41)] : List (S41))) := ⟨_, rfl⟩
          replace H : ((insert_Change.f t455 x7_13 y461).bind fun t464 => (some (t464, true))) = some (r1, r2) := by first | (rw [hy461]; with_reducible exact H) | (have H2_ := (Option.bind_some _ _).symm.trans H; rw [hy461]; with_reducible exact H2_) | (have H2_ := (Option.bind_some _ _).symm.trans H; with_reducible exact H2_) | with_reducible exact H | (rw [hy461]; exact H) | exact H
          have Ny461 := M_ hy461
          clear hy461
          replace H := Option.bind_eq_some_iff.mp H
          obtain ⟨t464, A390, H⟩ := H
          replace H : (some (t464, true)) = some (r1, r2) := H
          have A39 := M_ A390
          clear A390
          simp only [Option.some.injEq, Prod.mk.injEq] at H
          obtain ⟨rfl, rfl⟩ := H
          obtain ⟨Ao40, co40, eo40⟩ := Kd.R_slice HO_6.out
          subst eo40
          have hcz41_0 : wc.cell? ⟨gb452, 0, none⟩ = some (.int .i64 a1_0) := (blk_cell BK452.out 0).trans rfl
          have hcz41_1 : wc.cell? ⟨gb452, 1, none⟩ = some (.int .i64 a1_1) := (blk_cell BK452.out 1).trans rfl
          have hfz41_0 := blk_frozen BK452.out 0
          have hfz41_1 := blk_frozen BK452.out 1
          go_wp2_with (first | ((with_reducible refine gate_dst (N := 59) rfl ?_); refine Kd.R_lit k41 _ 41 ?hg (N := 59) ?hd (xs := ([(⟨a1_0, a1_1⟩ : S41)] : List (S41))) (inner := [.int .i64 a1_0, .int .i64 a1_1]) (ok := fun _ => True) (okp := fun _ => True) ?hr ?hp (fun _ hk => hk) trivial (Below.refl _ _) (Nat.le_refl _) (by simp) ?_; (case hd => rfl); (case hg => rfl); (case hr => first | (go_simp; done) | (go_simp; rfl)); (case hp => exact (Reps.c2 (show Kd.M k41 _ _ _ (⟨a1_0, a1_1⟩ : S41) [.int .i64 a1_0, .int .i64 a1_1] from (k41_mkM _ _ _ (⟨a1_0, a1_1⟩ : S41) )) (Reps.none _ _))); intro v462 w42 ho43 hb hg_ hnew_; clear hg_ hnew_; (first | rw [← Ny461.out] at ho43 | (simp only [Int.reduceToNat] at ho43; rw [← Ny461.out] at ho43)); have n0_ := M_ (Kd.R_elder' (rU_ HO_6.out) (Kd.R_base ho43) hb); have n1_ := M_ (Kd.R_lower (Kd.R_newB (Kd.R_new' ho43 (Kd.R_lt (rU_ HO_6.out))) (g := gb452) (o := .cells #[.int .i64 a1_0, .int .i64 a1_1] 41 (0, 0)) (by (with_reducible repeat (first | refine kn_ ?_ _ | refine kd_ ?_ | refine ka_ ?_ _)); exact BK452.out)) (below_size (by repeat (first | (with_reducible first | exact HB.out | apply ba_ | apply bn_ | apply b1_ | refine bs_ ?_ GE452.out) | exact HB.out)))); have n2_ := M_ (blk_below (g := gb452) (o := .cells #[.int .i64 a1_0, .int .i64 a1_1] 41 (0, 0)) (by (with_reducible repeat (first | refine kn_ ?_ _ | refine kd_ ?_ | refine ka_ ?_ _)); exact BK452.out) hb); have n3_ := M_ (below_step (by repeat (first | (with_reducible first | exact HB.out | apply ba_ | apply bn_ | apply b1_ | refine bs_ ?_ GE452.out) | exact HB.out)) hb); clear HO_6; clear BK452; clear HB; have HO_6 := n0_; have HO463 := n1_; have BK452 := n2_; have HB := n3_; clear n0_ n1_ n2_ n3_; clear hb ho43; obtain ⟨Ao44, co44, eo44⟩ := Kd.R_slice HO463.out; subst eo44) | (go_at_call 86; (with_reducible refine (insert_Change.calls (fun k_ => some k_ = (.slice Ao40 t455.length co40 : Value).ownBlock) (.slice Ao40 t455.length co40) t455 x7_13 (fun k_ => some k_ = (.slice Ao44 y461.length co44 : Value).ownBlock) (.slice Ao44 y461.length co44) y461 t464 w _ ?side1 ?side2 ?side3 ?side4 ?side5 A39.out).mono ?_); (case side1 => repeat (first | (with_reducible first | exact HB.out | apply ba_ | apply bn_ | apply b1_ | refine bs_ ?_ GE452.out) | exact HB.out)); (case side2 => exact Kd.R_tight rfl HO_6.out); (case side3 => exact fun k_ e_ => (HO_6.out.1 k_ e_.symm).2); (case side4 => exact Kd.R_tight rfl HO463.out); (case side5 => exact fun k_ e_ => (HO463.out.1 k_ e_.symm).1.2); rintro e w45 ⟨v465, rfl, ho0, hb, hkp⟩; have n0_ := M_ (blk_kept (by (with_reducible repeat (first | refine kn_ ?_ _ | refine kd_ ?_ | refine ka_ ?_ _)); exact BK452.out) hkp (fun hs_ => Or.elim hs_ (fun e_ => (fun e_ => (Kd.R_away HO_6.out (fun _ hk => hk.1)) e_) e_) (fun e_ => (fun e_ => (Kd.R_away HO463.out (fun _ hk => hk.2)) e_) e_))); have n1_ := M_ (rm_ (ok' := fun k_ => k_ ≠ gb452) ho0 (fun k_ hk_ => Or.elim hk_ (fun hs_ => Or.elim hs_ (fun hs_ => fun e_ => (Kd.R_away HO_6.out (fun _ hk => hk.1)) (by rw [← e_]; exact hs_)) (fun hs_ => fun e_ => (Kd.R_away HO463.out (fun _ hk => hk.2)) (by rw [← e_]; exact hs_))) (fun hn_ => (Kd.freshB (g := gb452) (o := .cells #[.int .i64 a1_0, .int .i64 a1_1] 41 (0, 0)) (by (with_reducible repeat (first | refine kn_ ?_ _ | refine kd_ ?_ | refine ka_ ?_ _)); exact BK452.out) k_ hn_)))); have n2_ := M_ (hb); clear BK452; clear HB; clear HO463; clear HO_6; have BK452 := n0_; have HO466 := n1_; have HB := n2_; clear n0_ n1_ n2_; (try clear hb); (try clear hkp); (try clear ho0)))
          repeat (go_quiet (first | ((with_reducible refine gate_dst (N := 59) rfl ?_); refine Kd.R_lit k41 _ 41 ?hg (N := 59) ?hd (xs := ([(⟨a1_0, a1_1⟩ : S41)] : List (S41))) (inner := [.int .i64 a1_0, .int .i64 a1_1]) (ok := fun _ => True) (okp := fun _ => True) ?hr ?hp (fun _ hk => hk) trivial (Below.refl _ _) (Nat.le_refl _) (by simp) ?_; (case hd => rfl); (case hg => rfl); (case hr => first | (go_simp; done) | (go_simp; rfl)); (case hp => exact (Reps.c2 (show Kd.M k41 _ _ _ (⟨a1_0, a1_1⟩ : S41) [.int .i64 a1_0, .int .i64 a1_1] from (k41_mkM _ _ _ (⟨a1_0, a1_1⟩ : S41) )) (Reps.none _ _))); intro v462 w42 ho43 hb hg_ hnew_; clear hg_ hnew_; (first | rw [← Ny461.out] at ho43 | (simp only [Int.reduceToNat] at ho43; rw [← Ny461.out] at ho43)); have n0_ := M_ (Kd.R_elder' (rU_ HO_6.out) (Kd.R_base ho43) hb); have n1_ := M_ (Kd.R_lower (Kd.R_newB (Kd.R_new' ho43 (Kd.R_lt (rU_ HO_6.out))) (g := gb452) (o := .cells #[.int .i64 a1_0, .int .i64 a1_1] 41 (0, 0)) (by (with_reducible repeat (first | refine kn_ ?_ _ | refine kd_ ?_ | refine ka_ ?_ _)); exact BK452.out)) (below_size (by repeat (first | (with_reducible first | exact HB.out | apply ba_ | apply bn_ | apply b1_ | refine bs_ ?_ GE452.out) | exact HB.out)))); have n2_ := M_ (blk_below (g := gb452) (o := .cells #[.int .i64 a1_0, .int .i64 a1_1] 41 (0, 0)) (by (with_reducible repeat (first | refine kn_ ?_ _ | refine kd_ ?_ | refine ka_ ?_ _)); exact BK452.out) hb); have n3_ := M_ (below_step (by repeat (first | (with_reducible first | exact HB.out | apply ba_ | apply bn_ | apply b1_ | refine bs_ ?_ GE452.out) | exact HB.out)) hb); clear HO_6; clear BK452; clear HB; have HO_6 := n0_; have HO463 := n1_; have BK452 := n2_; have HB := n3_; clear n0_ n1_ n2_ n3_; clear hb ho43; obtain ⟨Ao44, co44, eo44⟩ := Kd.R_slice HO463.out; subst eo44) | (go_at_call 86; (with_reducible refine (insert_Change.calls (fun k_ => some k_ = (.slice Ao40 t455.length co40 : Value).ownBlock) (.slice Ao40 t455.length co40) t455 x7_13 (fun k_ => some k_ = (.slice Ao44 y461.length co44 : Value).ownBlock) (.slice Ao44 y461.length co44) y461 t464 w _ ?side1 ?side2 ?side3 ?side4 ?side5 A39.out).mono ?_); (case side1 => repeat (first | (with_reducible first | exact HB.out | apply ba_ | apply bn_ | apply b1_ | refine bs_ ?_ GE452.out) | exact HB.out)); (case side2 => exact Kd.R_tight rfl HO_6.out); (case side3 => exact fun k_ e_ => (HO_6.out.1 k_ e_.symm).2); (case side4 => exact Kd.R_tight rfl HO463.out); (case side5 => exact fun k_ e_ => (HO463.out.1 k_ e_.symm).1.2); rintro e w45 ⟨v465, rfl, ho0, hb, hkp⟩; have n0_ := M_ (blk_kept (by (with_reducible repeat (first | refine kn_ ?_ _ | refine kd_ ?_ | refine ka_ ?_ _)); exact BK452.out) hkp (fun hs_ => Or.elim hs_ (fun e_ => (fun e_ => (Kd.R_away HO_6.out (fun _ hk => hk.1)) e_) e_) (fun e_ => (fun e_ => (Kd.R_away HO463.out (fun _ hk => hk.2)) e_) e_))); have n1_ := M_ (rm_ (ok' := fun k_ => k_ ≠ gb452) ho0 (fun k_ hk_ => Or.elim hk_ (fun hs_ => Or.elim hs_ (fun hs_ => fun e_ => (Kd.R_away HO_6.out (fun _ hk => hk.1)) (by rw [← e_]; exact hs_)) (fun hs_ => fun e_ => (Kd.R_away HO463.out (fun _ hk => hk.2)) (by rw [← e_]; exact hs_))) (fun hn_ => (Kd.freshB (g := gb452) (o := .cells #[.int .i64 a1_0, .int .i64 a1_1] 41 (0, 0)) (by (with_reducible repeat (first | refine kn_ ?_ _ | refine kd_ ?_ | refine ka_ ?_ _)); exact BK452.out) k_ hn_)))); have n2_ := M_ (hb); clear BK452; clear HB; clear HO463; clear HO_6; have BK452 := n0_; have HO466 := n1_; have HB := n2_; clear n0_ n1_ n2_; (try clear hb); (try clear hkp); (try clear ho0))); try go_wp2_with (first | ((with_reducible refine gate_dst (N := 59) rfl ?_); refine Kd.R_lit k41 _ 41 ?hg (N := 59) ?hd (xs := ([(⟨a1_0, a1_1⟩ : S41)] : List (S41))) (inner := [.int .i64 a1_0, .int .i64 a1_1]) (ok := fun _ => True) (okp := fun _ => True) ?hr ?hp (fun _ hk => hk) trivial (Below.refl _ _) (Nat.le_refl _) (by simp) ?_; (case hd => rfl); (case hg => rfl); (case hr => first | (go_simp; done) | (go_simp; rfl)); (case hp => exact (Reps.c2 (show Kd.M k41 _ _ _ (⟨a1_0, a1_1⟩ : S41) [.int .i64 a1_0, .int .i64 a1_1] from (k41_mkM _ _ _ (⟨a1_0, a1_1⟩ : S41) )) (Reps.none _ _))); intro v462 w42 ho43 hb hg_ hnew_; clear hg_ hnew_; (first | rw [← Ny461.out] at ho43 | (simp only [Int.reduceToNat] at ho43; rw [← Ny461.out] at ho43)); have n0_ := M_ (Kd.R_elder' (rU_ HO_6.out) (Kd.R_base ho43) hb); have n1_ := M_ (Kd.R_lower (Kd.R_newB (Kd.R_new' ho43 (Kd.R_lt (rU_ HO_6.out))) (g := gb452) (o := .cells #[.int .i64 a1_0, .int .i64 a1_1] 41 (0, 0)) (by (with_reducible repeat (first | refine kn_ ?_ _ | refine kd_ ?_ | refine ka_ ?_ _)); exact BK452.out)) (below_size (by repeat (first | (with_reducible first | exact HB.out | apply ba_ | apply bn_ | apply b1_ | refine bs_ ?_ GE452.out) | exact HB.out)))); have n2_ := M_ (blk_below (g := gb452) (o := .cells #[.int .i64 a1_0, .int .i64 a1_1] 41 (0, 0)) (by (with_reducible repeat (first | refine kn_ ?_ _ | refine kd_ ?_ | refine ka_ ?_ _)); exact BK452.out) hb); have n3_ := M_ (below_step (by repeat (first | (with_reducible first | exact HB.out | apply ba_ | apply bn_ | apply b1_ | refine bs_ ?_ GE452.out) | exact HB.out)) hb); clear HO_6; clear BK452; clear HB; have HO_6 := n0_; have HO463 := n1_; have BK452 := n2_; have HB := n3_; clear n0_ n1_ n2_ n3_; clear hb ho43; obtain ⟨Ao44, co44, eo44⟩ := Kd.R_slice HO463.out; subst eo44) | (go_at_call 86; (with_reducible refine (insert_Change.calls (fun k_ => some k_ = (.slice Ao40 t455.length co40 : Value).ownBlock) (.slice Ao40 t455.length co40) t455 x7_13 (fun k_ => some k_ = (.slice Ao44 y461.length co44 : Value).ownBlock) (.slice Ao44 y461.length co44) y461 t464 w _ ?side1 ?side2 ?side3 ?side4 ?side5 A39.out).mono ?_); (case side1 => repeat (first | (with_reducible first | exact HB.out | apply ba_ | apply bn_ | apply b1_ | refine bs_ ?_ GE452.out) | exact HB.out)); (case side2 => exact Kd.R_tight rfl HO_6.out); (case side3 => exact fun k_ e_ => (HO_6.out.1 k_ e_.symm).2); (case side4 => exact Kd.R_tight rfl HO463.out); (case side5 => exact fun k_ e_ => (HO463.out.1 k_ e_.symm).1.2); rintro e w45 ⟨v465, rfl, ho0, hb, hkp⟩; have n0_ := M_ (blk_kept (by (with_reducible repeat (first | refine kn_ ?_ _ | refine kd_ ?_ | refine ka_ ?_ _)); exact BK452.out) hkp (fun hs_ => Or.elim hs_ (fun e_ => (fun e_ => (Kd.R_away HO_6.out (fun _ hk => hk.1)) e_) e_) (fun e_ => (fun e_ => (Kd.R_away HO463.out (fun _ hk => hk.2)) e_) e_))); have n1_ := M_ (rm_ (ok' := fun k_ => k_ ≠ gb452) ho0 (fun k_ hk_ => Or.elim hk_ (fun hs_ => Or.elim hs_ (fun hs_ => fun e_ => (Kd.R_away HO_6.out (fun _ hk => hk.1)) (by rw [← e_]; exact hs_)) (fun hs_ => fun e_ => (Kd.R_away HO463.out (fun _ hk => hk.2)) (by rw [← e_]; exact hs_))) (fun hn_ => (Kd.freshB (g := gb452) (o := .cells #[.int .i64 a1_0, .int .i64 a1_1] 41 (0, 0)) (by (with_reducible repeat (first | refine kn_ ?_ _ | refine kd_ ?_ | refine ka_ ?_ _)); exact BK452.out) k_ hn_)))); have n2_ := M_ (hb); clear BK452; clear HB; clear HO463; clear HO_6; have BK452 := n0_; have HO466 := n1_; have HB := n2_; clear n0_ n1_ n2_; (try clear hb); (try clear hkp); (try clear ho0))))
          go_ret2
          exact ⟨_, by first | rfl | (simp [errW_none, errW_some] <;> rfl) | (simp [*, errW_none, errW_some] <;> rfl), by (with_reducible repeat (first | apply ra_ | apply rn_ | apply rd_)); exact rm_ HO466.out (fun _ hk => trivial), by repeat (first | (with_reducible first | exact HB.out | apply ba_ | apply bn_ | apply b1_ | refine bs_ ?_ GE452.out) | exact HB.out)⟩

def impl_TimeOf.f (k : Nat) (l0 : List (S41)) (a1 : Int) : Option (Int × Bool) := (impl_AreTempos.f k l0).bind fun t467 => (if t467 = true then ((impl_isTempoStep.f a1).bind fun t468 => (if t468 = true then ((impl_timeOf.f k l0 a1).bind fun t469 => (some (t469, true))) else (some (0, false)))) else (some (0, false)))
theorem impl_TimeOf.mono : ∀ a0 a1 k, LeO (impl_TimeOf.f k a0 a1) (impl_TimeOf.f (k + 1) a0 a1) := by
 intro a0 a1 k
 unfold impl_TimeOf.f
 repeat' first
   | (with_reducible exact impl_AreTempos.mono _ _)
   | (with_reducible exact impl_timeOf.mono _ _ _)
   | (with_reducible exact LeO.refl _)
   | (with_reducible exact LeO.none _)
   | (with_reducible refine LeO.ite ?_ ?_)
   | (with_reducible refine LeO.bind ?_ (fun _ => ?_))
   | exact impl_AreTempos.mono _ _
   | exact impl_timeOf.mono _ _ _
   | exact LeO.none _
   | refine LeO.ite ?_ ?_
   | refine LeO.bind ?_ (fun _ => ?_)
set_option maxHeartbeats 8000000 in
set_option maxRecDepth 100000 in
theorem impl_TimeOf.calls (k : Nat) (A0 : Option Addr) (c0 : Nat) (l0 : List (S41)) (a1 : Int) (r1 : Int) (r2 : Bool) (w : World) (hr0 : Kd.C k41 w A0 l0.length l0) (hc0 : l0.length ≤ c0) (h : impl_TimeOf.f k l0 a1 = some (r1, r2)) :
  Calls Try.prog 30 #[.slice A0 l0.length c0, .int .i64 a1] w fun e w' => e = .returned (.tuple #[.int .i64 r1, .bool r2]) ∧ Below w.heap.size w w' := by
 have HR0 := M_ hr0
 have HC0 := M_ hc0
 clear hr0 hc0
 have HB := M_ (Below.refl w.heap.size w)
 have H : ((impl_AreTempos.f k l0).bind fun t467 => (if t467 = true then ((impl_isTempoStep.f a1).bind fun t468 => (if t468 = true then ((impl_timeOf.f k l0 a1).bind fun t469 => (some (t469, true))) else (some (0, false)))) else (some (0, false)))) = some (r1, r2) := h
 clear h
 replace H := Option.bind_eq_some_iff.mp H
 obtain ⟨t467, A30, H⟩ := H
 try dsimp only at H
 have A3 := M_ A30
 clear A30
 by_cases c4 : t467 = true
 ·subst c4
  have H1 : ((impl_isTempoStep.f a1).bind fun t468 => (if t468 = true then ((impl_timeOf.f k l0 a1).bind fun t469 => (some (t469, true))) else (some (0, false)))) = some (r1, r2) := by rw [if_pos rfl] at H; exact H
  clear H
  have H := H1
  clear H1
  replace H := Option.bind_eq_some_iff.mp H
  obtain ⟨t468, A50, H⟩ := H
  try dsimp only at H
  have A5 := M_ A50
  clear A50
  by_cases c6 : t468 = true
  ·subst c6
   have H1 : ((impl_timeOf.f k l0 a1).bind fun t469 => (some (t469, true))) = some (r1, r2) := by rw [if_pos rfl] at H; exact H
   clear H
   have H := H1
   clear H1
   replace H := Option.bind_eq_some_iff.mp H
   obtain ⟨t469, A70, H⟩ := H
   replace H : (some (t469, true)) = some (r1, r2) := H
   have A7 := M_ A70
   clear A70
   simp only [Option.some.injEq, Prod.mk.injEq] at H
   obtain ⟨rfl, rfl⟩ := H
   go_enter Try.func30, Try.ntmps30
   go_wp2_with (first | ((with_reducible refine gate_callee (f := 27) rfl ?_); refine gL_ (some 7) rfl rfl Try.func27 (by kernel_rfl) rfl #[.slice A0 l0.length c0] rfl ?_; (with_reducible refine (impl_AreTempos.calls k _ _ l0 true _ ?side1 ?side2 A3.out).mono ?_); (case side1 => exact cU_ HR0.out); (case side2 => exact HC0.out); rintro e w8 ⟨rfl, hb⟩; refine ⟨_, rfl, ?_⟩; have n0_ := M_ (bS_ hb); clear HB; have HB := n0_; clear n0_; (try clear hb); (try clear hb2); (try clear hk); (try clear hi)) | (go_at_call 78; (with_reducible refine (impl_isTempoStep.calls a1 true _ A5.out).mono ?_); rintro e w' ⟨rfl, ⟨nd, rfl⟩⟩) | ((with_reducible refine gate_callee (f := 85) rfl ?_); refine gL_ (some 16) rfl rfl Try.func85 (by kernel_rfl) rfl #[.slice A0 l0.length c0, .int .i64 a1] rfl ?_; (with_reducible refine (impl_timeOf.calls k _ _ l0 a1 t469 _ ?side1 ?side2 A7.out).mono ?_); (case side1 => repeat (first | exact (Kd.C_below HR0.out (by repeat (first | (with_reducible first | exact HB.out | apply ba_ | apply bn_ | apply b1_) | exact HB.out))) | (with_reducible refine Kd.C_alloc ?_ _) | (with_reducible refine Kd.C_drewN ?_ _) | (with_reducible refine Kd.C_drew ?_))); (case side2 => exact HC0.out); rintro e w9 ⟨rfl, hb⟩; refine ⟨_, rfl, ?_⟩; have n0_ := M_ (bS_ hb); clear HB; have HB := n0_; clear n0_; (try clear hb); (try clear hb2); (try clear hk); (try clear hi)))
   go_ret2
   exact eW_
  ·replace c6 := Bool.eq_false_iff.mpr c6
   subst c6
   have H1 : (some (0, false)) = some (r1, r2) := by rw [if_neg (show ¬ (false = true) by decide)] at H; exact H
   clear H
   have H := H1
   clear H1
   simp only [Option.some.injEq, Prod.mk.injEq] at H
   obtain ⟨rfl, rfl⟩ := H
   go_enter Try.func30, Try.ntmps30
   go_wp2_with (first | ((with_reducible refine gate_callee (f := 27) rfl ?_); refine gL_ (some 7) rfl rfl Try.func27 (by kernel_rfl) rfl #[.slice A0 l0.length c0] rfl ?_; (with_reducible refine (impl_AreTempos.calls k _ _ l0 true _ ?side1 ?side2 A3.out).mono ?_); (case side1 => exact cU_ HR0.out); (case side2 => exact HC0.out); rintro e w10 ⟨rfl, hb⟩; refine ⟨_, rfl, ?_⟩; have n0_ := M_ (bS_ hb); clear HB; have HB := n0_; clear n0_; (try clear hb); (try clear hb2); (try clear hk); (try clear hi)) | (go_at_call 78; (with_reducible refine (impl_isTempoStep.calls a1 false _ A5.out).mono ?_); rintro e w' ⟨rfl, ⟨nd, rfl⟩⟩))
   go_ret2
   exact eW_
 ·replace c4 := Bool.eq_false_iff.mpr c4
  subst c4
  have H1 : (some (0, false)) = some (r1, r2) := by rw [if_neg (show ¬ (false = true) by decide)] at H; exact H
  clear H
  have H := H1
  clear H1
  simp only [Option.some.injEq, Prod.mk.injEq] at H
  obtain ⟨rfl, rfl⟩ := H
  go_enter Try.func30, Try.ntmps30
  go_wp2_with (first | ((with_reducible refine gate_callee (f := 27) rfl ?_); refine gL_ (some 7) rfl rfl Try.func27 (by kernel_rfl) rfl #[.slice A0 l0.length c0] rfl ?_; (with_reducible refine (impl_AreTempos.calls k _ _ l0 false _ ?side1 ?side2 A3.out).mono ?_); (case side1 => exact cU_ HR0.out); (case side2 => exact HC0.out); rintro e w11 ⟨rfl, hb⟩; refine ⟨_, rfl, ?_⟩; have n0_ := M_ (bS_ hb); clear HB; have HB := n0_; clear n0_; (try clear hb); (try clear hb2); (try clear hk); (try clear hi)))
  go_ret2
  exact eW_

def spec_TimeOf.f (k : Nat) (l0 : List (S41)) (a1 : Int) : Option (Int × Bool) := (spec_teGood.f k l0).bind fun t470 => (if t470 = true then ((spec_teStep.f a1).bind fun t471 => (if t471 = true then ((spec_teTime.f k l0 a1).bind fun t472 => (some (t472, true))) else (some (0, false)))) else (some (0, false)))
theorem spec_TimeOf.mono : ∀ a0 a1 k, LeO (spec_TimeOf.f k a0 a1) (spec_TimeOf.f (k + 1) a0 a1) := by
 intro a0 a1 k
 unfold spec_TimeOf.f
 repeat' first
   | (with_reducible exact spec_teGood.mono _ _)
   | (with_reducible exact spec_teTime.mono _ _ _)
   | (with_reducible exact LeO.refl _)
   | (with_reducible exact LeO.none _)
   | (with_reducible refine LeO.ite ?_ ?_)
   | (with_reducible refine LeO.bind ?_ (fun _ => ?_))
   | exact spec_teGood.mono _ _
   | exact spec_teTime.mono _ _ _
   | exact LeO.none _
   | refine LeO.ite ?_ ?_
   | refine LeO.bind ?_ (fun _ => ?_)
set_option maxHeartbeats 8000000 in
set_option maxRecDepth 100000 in
theorem spec_TimeOf.calls (k : Nat) (A0 : Option Addr) (c0 : Nat) (l0 : List (S41)) (a1 : Int) (r1 : Int) (r2 : Bool) (w : World) (hr0 : Kd.C k41 w A0 l0.length l0) (hc0 : l0.length ≤ c0) (h : spec_TimeOf.f k l0 a1 = some (r1, r2)) :
  Calls Try.prog 31 #[.slice A0 l0.length c0, .int .i64 a1] w fun e w' => e = .returned (.tuple #[.int .i64 r1, .bool r2]) ∧ Below w.heap.size w w' := by
 have HR0 := M_ hr0
 have HC0 := M_ hc0
 clear hr0 hc0
 have HB := M_ (Below.refl w.heap.size w)
 have H : ((spec_teGood.f k l0).bind fun t470 => (if t470 = true then ((spec_teStep.f a1).bind fun t471 => (if t471 = true then ((spec_teTime.f k l0 a1).bind fun t472 => (some (t472, true))) else (some (0, false)))) else (some (0, false)))) = some (r1, r2) := h
 clear h
 replace H := Option.bind_eq_some_iff.mp H
 obtain ⟨t470, A30, H⟩ := H
 try dsimp only at H
 have A3 := M_ A30
 clear A30
 by_cases c4 : t470 = true
 ·subst c4
  have H1 : ((spec_teStep.f a1).bind fun t471 => (if t471 = true then ((spec_teTime.f k l0 a1).bind fun t472 => (some (t472, true))) else (some (0, false)))) = some (r1, r2) := by rw [if_pos rfl] at H; exact H
  clear H
  have H := H1
  clear H1
  replace H := Option.bind_eq_some_iff.mp H
  obtain ⟨t471, A50, H⟩ := H
  try dsimp only at H
  have A5 := M_ A50
  clear A50
  by_cases c6 : t471 = true
  ·subst c6
   have H1 : ((spec_teTime.f k l0 a1).bind fun t472 => (some (t472, true))) = some (r1, r2) := by rw [if_pos rfl] at H; exact H
   clear H
   have H := H1
   clear H1
   replace H := Option.bind_eq_some_iff.mp H
   obtain ⟨t472, A70, H⟩ := H
   replace H : (some (t472, true)) = some (r1, r2) := H
   have A7 := M_ A70
   clear A70
   simp only [Option.some.injEq, Prod.mk.injEq] at H
   obtain ⟨rfl, rfl⟩ := H
   go_enter Try.func31, Try.ntmps31
   go_wp2_with (first | ((with_reducible refine gate_callee (f := 66) rfl ?_); refine gL_ (some 7) rfl rfl Try.func66 (by kernel_rfl) rfl #[.slice A0 l0.length c0] rfl ?_; (with_reducible refine (spec_teGood.calls k _ _ l0 true _ ?side1 ?side2 A3.out).mono ?_); (case side1 => exact cU_ HR0.out); (case side2 => exact HC0.out); rintro e w8 ⟨rfl, hb⟩; refine ⟨_, rfl, ?_⟩; have n0_ := M_ (bS_ hb); clear HB; have HB := n0_; clear n0_; (try clear hb); (try clear hb2); (try clear hk); (try clear hi)) | (go_at_call 81; (with_reducible refine (spec_teStep.calls a1 true _ A5.out).mono ?_); rintro e w' ⟨rfl, ⟨nd, rfl⟩⟩) | ((with_reducible refine gate_callee (f := 74) rfl ?_); refine gL_ (some 16) rfl rfl Try.func74 (by kernel_rfl) rfl #[.slice A0 l0.length c0, .int .i64 a1] rfl ?_; (with_reducible refine (spec_teTime.calls k _ _ l0 a1 t472 _ ?side1 ?side2 A7.out).mono ?_); (case side1 => repeat (first | exact (Kd.C_below HR0.out (by repeat (first | (with_reducible first | exact HB.out | apply ba_ | apply bn_ | apply b1_) | exact HB.out))) | (with_reducible refine Kd.C_alloc ?_ _) | (with_reducible refine Kd.C_drewN ?_ _) | (with_reducible refine Kd.C_drew ?_))); (case side2 => exact HC0.out); rintro e w9 ⟨rfl, hb⟩; refine ⟨_, rfl, ?_⟩; have n0_ := M_ (bS_ hb); clear HB; have HB := n0_; clear n0_; (try clear hb); (try clear hb2); (try clear hk); (try clear hi)))
   go_ret2
   exact eW_
  ·replace c6 := Bool.eq_false_iff.mpr c6
   subst c6
   have H1 : (some (0, false)) = some (r1, r2) := by rw [if_neg (show ¬ (false = true) by decide)] at H; exact H
   clear H
   have H := H1
   clear H1
   simp only [Option.some.injEq, Prod.mk.injEq] at H
   obtain ⟨rfl, rfl⟩ := H
   go_enter Try.func31, Try.ntmps31
   go_wp2_with (first | ((with_reducible refine gate_callee (f := 66) rfl ?_); refine gL_ (some 7) rfl rfl Try.func66 (by kernel_rfl) rfl #[.slice A0 l0.length c0] rfl ?_; (with_reducible refine (spec_teGood.calls k _ _ l0 true _ ?side1 ?side2 A3.out).mono ?_); (case side1 => exact cU_ HR0.out); (case side2 => exact HC0.out); rintro e w10 ⟨rfl, hb⟩; refine ⟨_, rfl, ?_⟩; have n0_ := M_ (bS_ hb); clear HB; have HB := n0_; clear n0_; (try clear hb); (try clear hb2); (try clear hk); (try clear hi)) | (go_at_call 81; (with_reducible refine (spec_teStep.calls a1 false _ A5.out).mono ?_); rintro e w' ⟨rfl, ⟨nd, rfl⟩⟩))
   go_ret2
   exact eW_
 ·replace c4 := Bool.eq_false_iff.mpr c4
  subst c4
  have H1 : (some (0, false)) = some (r1, r2) := by rw [if_neg (show ¬ (false = true) by decide)] at H; exact H
  clear H
  have H := H1
  clear H1
  simp only [Option.some.injEq, Prod.mk.injEq] at H
  obtain ⟨rfl, rfl⟩ := H
  go_enter Try.func31, Try.ntmps31
  go_wp2_with (first | ((with_reducible refine gate_callee (f := 66) rfl ?_); refine gL_ (some 7) rfl rfl Try.func66 (by kernel_rfl) rfl #[.slice A0 l0.length c0] rfl ?_; (with_reducible refine (spec_teGood.calls k _ _ l0 false _ ?side1 ?side2 A3.out).mono ?_); (case side1 => exact cU_ HR0.out); (case side2 => exact HC0.out); rintro e w11 ⟨rfl, hb⟩; refine ⟨_, rfl, ?_⟩; have n0_ := M_ (bS_ hb); clear HB; have HB := n0_; clear n0_; (try clear hb); (try clear hb2); (try clear hk); (try clear hi)))
  go_ret2
  exact eW_

end Go.Proofs.Ytgeipgflhjakjaa.PFnTempoChanges
