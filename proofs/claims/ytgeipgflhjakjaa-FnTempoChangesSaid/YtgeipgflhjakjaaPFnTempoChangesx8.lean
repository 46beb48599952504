-- by wip/xprint.py, over the kit's printer
import Derived.Test.YtgeipgflhjakjaaPFnTempoChangesx0
import Derived.Test.YtgeipgflhjakjaaPFnTempoChangesx2
import Derived.Test.YtgeipgflhjakjaaPFnTempoChangesx4
import Derived.Test.YtgeipgflhjakjaaPFnTempoChangesx5
import Derived.Test.YtgeipgflhjakjaaPFnTempoChangesx6
import Derived.Test.YtgeipgflhjakjaaPFnTempoChangesx7
namespace Go.Proofs.Ytgeipgflhjakjaa.PFnTempoChanges
open Go.RowKit Go.Proofs.YtgeipgflhjakjaaW.PrintWords Go.Proofs.YtgeipgflhjakjaaW.PrintLast Go.Proofs.YtgeipgflhjakjaaW.PrintMore
attribute [local go_sem] max2_int min2_int max_two min_two max_three min_three max_four min_four   -- for this text's walks alone
set_option linter.unusedVariables false
set_option linter.unusedSimpArgs false
private abbrev M_ {p : Prop} (h : p) : Aside0 p := Aside0.mk h
private abbrev la_ := @List.setIfInBounds_toArray
private abbrev lb_ := @List.set_cons_zero
private abbrev lc_ := @List.set_cons_succ
private abbrev bn_ := @pw_below_drewN
private abbrev b1_ := @below_drew1
private abbrev ba_ := @below_alloc
private abbrev bs_ := @below_set
private abbrev kn_ := @blk_drewN
private abbrev ka_ := @blk_alloc
private abbrev kd_ := @blk_drew
private abbrev rn_ := @Kd.R_drewN
private abbrev ra_ := @Kd.R_alloc
private abbrev rd_ := @Kd.R_drew
private abbrev rb_ := @Kd.R_below
private abbrev rm_ := @Kd.R_mono
private abbrev rt_ := @Kd.R_types
private theorem bS_ {w W w2 : World} (k : Below W.heap.size W w2) (h : Below w.heap.size w W := by repeat (first | (with_reducible first | exact HB.out | apply ba_ | apply bn_ | apply b1_) | exact HB.out)) : Below w.heap.size w w2 := below_step h k
private theorem bZ_ {w W : World} (h : Below w.heap.size w W := by repeat (first | (with_reducible first | exact HB.out | apply ba_ | apply bn_ | apply b1_) | exact HB.out)) : w.heap.size ≤ W.heap.size := below_size h
private theorem bA_ {w W : World} {n : Nat} (h : Below n w W := by repeat (first | (with_reducible first | exact HB.out | apply ba_ | apply bn_ | apply b1_) | exact HB.out)) : Aside0 (Below n w W) := ⟨h⟩
private theorem dT_ {p : Prop} [Decidable p] (h : decide p = true := by first | (with_reducible assumption) | assumption) : p := of_decide_eq_true h
private theorem rU_ {α : Type} {d : Kd α} {e : Nat} {w w' : World} {b : Nat} {ok : Nat → Prop} {v : Value} {xs : List α} (h : d.R e w b ok v xs) (u : d.R e w b ok v xs → d.R e w' b ok v xs := by intro h_; (with_reducible repeat (first | apply ra_ | apply rn_ | apply rd_)); exact h_) : d.R e w' b ok v xs := u h
private theorem cU_ {α : Type} {d : Kd α} {w w' : World} {A : Option Addr} {n : Nat} {xs : List α} (h : d.C w A n xs) (u : d.C w A n xs → d.C w' A n xs := by intro h_; repeat (first | exact h_ | (with_reducible refine Kd.C_alloc ?_ _) | (with_reducible refine Kd.C_drewN ?_ _) | (with_reducible refine Kd.C_drew ?_))) : d.C w' A n xs := u h
private theorem gL_ {P : Program} {ops : Array Oper} {Q : Exit → Act → World → Prop} {rest : List Oper} {oi : Oper} {a : Act} {w : World} (N : Option Tmp) (hd : oi.dst = N) (hg : oi.guard = none) {f : FuncId} {fn : Func} {as1 : Array Operand} {ts : Array TypeId} (hf : P.funcs[f]? = some fn) (hname : (fn.name == "runtime.NumGoroutine") = false) (hb : fn.body.isSome = true) (args : Array Value) (hop : oi.op = .call { callee := .value (.func f), args := as1, argTypes := ts }) (h : Calls P f args w fun e w' => ∃ v, e = .returned v ∧ wpList P ops Q rest (a.put N v) w') (hargs : as1.map a.eval = args := by (try simp only [List.map_toArray, List.map_cons, List.map_nil]); first | done | rfl | (simp only [List.length_drop, List.length_take]; rfl)) : wpList P ops Q (oi :: rest) a w := goesL_ N hd hg hf hname hb args hop hargs h

def spec_SimpleTempos.l0 : Nat → List (S41) → List (S41) → List (S41) → Int → Int → Option ((List (S41)) × Bool)
 | 0, _, _, _, _, _ => none
 | k + 1, x0, x4, x10, x11, x12 => if x12 < x11 then (if 0 ≤ x12 then (if x12 < (x10.length : Int) then (if x12 = 0 then (if x4.length < 8796093022208 then (spec_SimpleTempos.l0 k x0 (x4 ++ [(⟨(rd_T41 x10 x12).f0, (rd_T41 x10 x12).f1⟩ : S41)]) x10 x11 (wrap64 (x12 + 1))) else (none)) else (if 0 ≤ (wrap64 (x12 - 1)) then (if (wrap64 (x12 - 1)) < (x0.length : Int) then (if ((rd_T41 x10 x12).f1) = ((rd_T41 x0 (wrap64 (x12 - 1))).f1) then (spec_SimpleTempos.l0 k x0 x4 x10 x11 (wrap64 (x12 + 1))) else (if x4.length < 8796093022208 then (spec_SimpleTempos.l0 k x0 (x4 ++ [(⟨(rd_T41 x10 x12).f0, (rd_T41 x10 x12).f1⟩ : S41)]) x10 x11 (wrap64 (x12 + 1))) else (none))) else (none)) else (none))) else (none)) else (none)) else (some (x4, true))
def spec_SimpleTempos.f (k : Nat) (l0 : List (S41)) : Option ((List (S41)) × Bool) := (spec_teGood.f k l0).bind fun t226 => (if t226 = true then (spec_SimpleTempos.l0 k l0 ([] : List (S41)) l0 (l0.length : Int) 0) else (some (([] : List (S41)), false)))
theorem spec_SimpleTempos.mono_l : ∀ k, (∀ y0 y1 y2 y3 y4, LeO (spec_SimpleTempos.l0 k y0 y1 y2 y3 y4) (spec_SimpleTempos.l0 (k + 1) y0 y1 y2 y3 y4))
 | 0 => fun _ _ _ _ _ r h => by simp [spec_SimpleTempos.l0] at h
 | k + 1 => by
  have ih0 := spec_SimpleTempos.mono_l k
  ·intro y0 y1 y2 y3 y4
   unfold spec_SimpleTempos.l0
   repeat' first
   | (with_reducible exact ih0 _ _ _ _ _)
   | (with_reducible exact spec_teGood.mono _ _)
   | (with_reducible exact LeO.refl _)
   | (with_reducible exact LeO.none _)
   | (with_reducible refine LeO.ite ?_ ?_)
   | (with_reducible refine LeO.bind ?_ (fun _ => ?_))
   | exact ih0 _ _ _ _ _
   | exact spec_teGood.mono _ _
   | exact LeO.none _
   | refine LeO.ite ?_ ?_
   | refine LeO.bind ?_ (fun _ => ?_)
theorem spec_SimpleTempos.mono : ∀ a0 k, LeO (spec_SimpleTempos.f k a0) (spec_SimpleTempos.f (k + 1) a0) := by
 intro a0 k
 have ih0 := spec_SimpleTempos.mono_l k
 unfold spec_SimpleTempos.f
 repeat' first
   | (with_reducible exact ih0 _ _ _ _ _)
   | (with_reducible exact spec_teGood.mono _ _)
   | (with_reducible exact LeO.refl _)
   | (with_reducible exact LeO.none _)
   | (with_reducible refine LeO.ite ?_ ?_)
   | (with_reducible refine LeO.bind ?_ (fun _ => ?_))
   | exact ih0 _ _ _ _ _
   | exact spec_teGood.mono _ _
   | exact LeO.none _
   | refine LeO.ite ?_ ?_
   | refine LeO.bind ?_ (fun _ => ?_)
set_option maxHeartbeats 8000000 in
set_option maxRecDepth 100000 in
theorem spec_SimpleTempos.calls (k : Nat) (A0 : Option Addr) (c0 : Nat) (l0 : List (S41)) (r1 : List (S41)) (r2 : Bool) (w : World) (hr0 : Kd.C k41 w A0 l0.length l0) (hc0 : l0.length ≤ c0) (h : spec_SimpleTempos.f k l0 = some (r1, r2)) :
  Calls Try.prog 10 #[.slice A0 l0.length c0] w fun e w' => ∃ v0_ : Value, e = .returned (.tuple #[v0_, .bool r2]) ∧ Kd.R k41 41 w' w.heap.size (fun _ => True) v0_ r1 ∧ Below w.heap.size w w' := by
 have hu41 := Try.underlying41
 have HR0 := M_ hr0
 have HC0 := M_ hc0
 clear hr0 hc0
 have HB := M_ (Below.refl w.heap.size w)
 have H : ((spec_teGood.f k l0).bind fun t226 => (if t226 = true then (spec_SimpleTempos.l0 k l0 ([] : List (S41)) l0 (l0.length : Int) 0) else (some (([] : List (S41)), false)))) = some (r1, r2) := h
 clear h
 replace H := Option.bind_eq_some_iff.mp H
 obtain ⟨t226, A20, H⟩ := H
 try dsimp only at H
 have A2 := M_ A20
 clear A20
 by_cases c3 : t226 = true
 ·subst c3
  have H1 : (spec_SimpleTempos.l0 k l0 ([] : List (S41)) l0 (l0.length : Int) 0) = some (r1, r2) := by rw [if_pos rfl] at H; exact H
  clear H
  have H := H1
  clear H1
  have H' := M_ H
  clear H
  go_enter Try.func10, Try.ntmps10
  go_wp2_with (first | (go_at_call 66; (with_reducible refine (spec_teGood.calls k _ _ l0 true _ ?side1 ?side2 A2.out).mono ?_); (case side1 => exact cU_ HR0.out); (case side2 => exact HC0.out); rintro e w4 ⟨rfl, hb⟩; have n0_ := M_ (bS_ hb); clear HB; have HB := n0_; clear n0_; (try clear hb); (try clear hb2); (try clear hk); (try clear hi)))
  repeat (go_quiet (first | (go_at_call 66; (with_reducible refine (spec_teGood.calls k _ _ l0 true _ ?side1 ?side2 A2.out).mono ?_); (case side1 => exact cU_ HR0.out); (case side2 => exact HC0.out); rintro e w4 ⟨rfl, hb⟩; have n0_ := M_ (bS_ hb); clear HB; have HB := n0_; clear n0_; (try clear hb); (try clear hb2); (try clear hk); (try clear hi))); try go_wp2_with (first | (go_at_call 66; (with_reducible refine (spec_teGood.calls k _ _ l0 true _ ?side1 ?side2 A2.out).mono ?_); (case side1 => exact cU_ HR0.out); (case side2 => exact HC0.out); rintro e w4 ⟨rfl, hb⟩; have n0_ := M_ (bS_ hb); clear HB; have HB := n0_; clear n0_; (try clear hb); (try clear hb2); (try clear hk); (try clear hi))))
  go_loopg [4, 12] k (fun kq v4 v12 w' => ∃ (x4_1 : List (S41)) (x12_1 : Int), v12 = .int .i64 x12_1 ∧ Aside0 (spec_SimpleTempos.l0 kq l0 x4_1 l0 (l0.length : Int) x12_1 = some (r1, r2)) ∧ Aside0 (kq ≤ k) ∧ Aside0 (Kd.R k41 41 w' w.heap.size (fun _ => True) v4 x4_1) ∧ Aside0 (Below w.heap.size w w'))
  case atStart => exact ⟨(([] : List (S41))), (0), (by first | rfl | (simp; done) | (simp [*]; done)), H', ⟨Nat.le_refl _⟩, ⟨by first | exact Kd.R_nil _ _ _ _ _ | exact Kd.N_nil _ _ _ _ _ | exact Kd.V_nil _ _ _ _ _ | exact Kd.Q_nil _ _ _ _ _ | exact Kd.S_nil _ _ _ _ _⟩, bA_⟩
  case round =>
   clear H'
   try clear c1
   try clear p2
   try clear c3
   obtain ⟨x4_1, x12_1, rfl, HA, HK1, HO_4, HB⟩ := hrel
   cases gk with
   | zero => exact absurd HA.out (by simp [spec_SimpleTempos.l0])
   | succ k1 =>
    have H := HA.out
    clear HA
    simp only [spec_SimpleTempos.l0] at H
    by_cases c5 : x12_1 < (l0.length : Int)
    ·rw [if_pos c5] at H
     have c5b0 : decide (x12_1 < (l0.length : Int)) = true := decide_eq_true c5
     clear c5
     by_cases c6 : 0 ≤ x12_1
     ·rw [if_pos c6] at H
      have c6b0 : decide (0 ≤ x12_1) = true := decide_eq_true c6
      clear c6
      by_cases c7 : x12_1 < (l0.length : Int)
      ·rw [if_pos c7] at H
       have c7b0 : decide (x12_1 < (l0.length : Int)) = true := decide_eq_true c7
       clear c7
       by_cases c8 : x12_1 = 0
       ·rw [if_pos c8] at H
        have c8b0 : (x12_1 == 0) = true := beq_iff_eq.mpr c8
        have c8b1 : (x12_1 != 0) = false := bne_eq_false_iff_eq.mpr c8
        clear c8
        by_cases c9 : x4_1.length < 8796093022208
        ·rw [if_pos c9] at H
         have LMc9 := M_ c9
         clear c9
         obtain ⟨y229, hy229⟩ : ∃ y_ : List (S41), y_ = (x4_1 ++ [(⟨(rd_T41 l0 x12_1).f0, (rd_T41 l0 x12_1).f1⟩ : S41)]) := ⟨_, rfl⟩
         replace H : (spec_SimpleTempos.l0 k1 l0 y229 l0 (l0.length : Int) (wrap64 (x12_1 + 1))) = some (r1, r2) := by first | (rw [hy229]; with_reducible exact H) | (have H2_ := (Option.bind_some _ _).symm.trans H; rw [hy229]; with_reducible exact H2_) | (have H2_ := (Option.bind_some _ _).symm.trans H; with_reducible exact H2_) | with_reducible exact H | (rw [hy229]; exact H) | exact H
         have Ny229 := M_ hy229
         clear hy229
         have H' := M_ H
         clear H
         have p227 : 0 ≤ (x12_1 : Int) := dT_
         have q227 : x12_1 < (l0.length : Int) := dT_
         obtain ⟨ad227, e227, hx227_0, hx227_1⟩ := at_T41 HR0.out x12_1 p227 q227
         cases e227
         replace hx227_0 := (HB.out.cell (World.block_lt_of_cell? w _ hx227_0)).trans hx227_0
         replace hx227_1 := (HB.out.cell (World.block_lt_of_cell? w _ hx227_1)).trans hx227_1
         replace p227 := eq_true p227
         replace q227 := eq_true q227
         go_wp2_with (first | ((with_reducible refine gate_dst (N := 6) rfl ?_); refine box_event ?hg (N := 6) ?hd (cs := #[.int .i64 0, .int .i64 0]) (t := 41) ?hr ?_; (case hd => rfl); (case hg => rfl); (case hr => first | (go_simp; done) | (go_simp; rfl)); intro gb228 hg w10 hbox hb; have n0_ := M_ (rb_ (Kd.R_elderB (rU_ HO_4.out) gb228 (Nat.le_of_eq hg.symm)) hb); have n1_ := M_ (bS_ hb); have n2_ := M_ (hbox); have n3_ := M_ ((by rw [hg]; exact bZ_ : w.heap.size ≤ gb228)); have n4_ := M_ ((by rw [hg]; exact bZ_ : w.heap.size ≤ gb228)); clear HO_4; clear HB; have HO_4 := n0_; have HB := n1_; have BK228 := n2_; have GW228 := n3_; have GE228 := n4_; clear n0_ n1_ n2_ n3_ n4_; clear hb hbox hg; have hcz11_0 : w10.cell? ⟨gb228, 0, none⟩ = some (.int .i64 0) := (blk_cell BK228.out 0).trans rfl; have hcz11_1 : w10.cell? ⟨gb228, 1, none⟩ = some (.int .i64 0) := (blk_cell BK228.out 1).trans rfl; have hfz11_0 := blk_frozen BK228.out 0; have hfz11_1 := blk_frozen BK228.out 1) | ((with_reducible refine gate_builtin (b := .append) (xs := #[.tmp 30, .tmp 32]) rfl ?_); at_builtin; refine Kd.R_append k41 (w0 := w) w.heap.size rfl (.tmp 30) (.tmp 32) 23 41 (.agg #[(.int .i64 0), (.int .i64 0)]) 16 rfl Try.underlying23 info41 rfl (by decide) (by omega) u4 x4_1 (⟨(rd_T41 l0 x12_1).f0, (rd_T41 l0 x12_1).f1⟩ : S41) [.int .i64 ((rd_T41 l0 x12_1).f0), .int .i64 ((rd_T41 l0 x12_1).f1)] (fun k_ => k_ ≠ gb228) (fun _ => False) rfl (by first | (go_simp; done) | (go_simp; rfl)) ?aP (fun _ hk => hk.elim) ?aF ?aO ?aB ?aS ?aL ?_; (case aP => exact k41_mkM _ _ _ (⟨(rd_T41 l0 x12_1).f0, (rd_T41 l0 x12_1).f1⟩ : S41)); (case aB => exact (by repeat (first | (with_reducible first | exact HB.out | apply ba_ | apply bn_ | apply b1_ | refine bs_ ?_ GE228.out) | exact HB.out))); (case aF => exact (fun k_ hk => Kd.freshB (g := gb228) (o := .cells #[.int .i64 ((rd_T41 l0 x12_1).f0), .int .i64 ((rd_T41 l0 x12_1).f1)] 41 (0, 0)) (by (with_reducible repeat (first | refine kn_ ?_ _ | refine kd_ ?_ | refine ka_ ?_ _)); refine blk_put (cs := #[.int .i64 ((rd_T41 l0 x12_1).f0), .int .i64 0]) ?_ 1 _ rfl; (with_reducible repeat (first | refine kn_ ?_ _ | refine kd_ ?_ | refine ka_ ?_ _)); refine blk_put (cs := #[.int .i64 0, .int .i64 0]) ?_ 0 _ rfl; (with_reducible repeat (first | refine kn_ ?_ _ | refine kd_ ?_ | refine ka_ ?_ _)); exact BK228.out) k_ hk)); (case aO => exact (by (with_reducible repeat (first | apply ra_ | apply rn_ | apply rd_)); exact rm_ (Kd.R_far (p := ⟨gb228, 1, none⟩) (Kd.R_far (p := ⟨gb228, 0, none⟩) (rm_ HO_4.out (fun k_ hk => (⟨hk, hk.2⟩ : _ ∧ k_ ≠ gb228))) (fun _ hk => hk.2) (.int .i64 ((rd_T41 l0 x12_1).f0))) (fun _ hk => hk.2) (.int .i64 ((rd_T41 l0 x12_1).f1))) (fun _ hk => hk.1.2))); (case aS => exact (below_size (by repeat (first | (with_reducible first | exact HB.out | apply ba_ | apply bn_ | apply b1_ | refine bs_ ?_ GE228.out) | exact HB.out)))); (case aL => have := LMc9.out; omega); intro v230 w12 ho hb hg hat; rw [← Ny229.out] at ho; have n0_ := M_ (blk_grown (g := gb228) (o := .cells #[.int .i64 ((rd_T41 l0 x12_1).f0), .int .i64 ((rd_T41 l0 x12_1).f1)] 41 (0, 0)) (by (with_reducible repeat (first | refine kn_ ?_ _ | refine kd_ ?_ | refine ka_ ?_ _)); refine blk_put (cs := #[.int .i64 ((rd_T41 l0 x12_1).f0), .int .i64 0]) ?_ 1 _ rfl; (with_reducible repeat (first | refine kn_ ?_ _ | refine kd_ ?_ | refine ka_ ?_ _)); refine blk_put (cs := #[.int .i64 0, .int .i64 0]) ?_ 0 _ rfl; (with_reducible repeat (first | refine kn_ ?_ _ | refine kd_ ?_ | refine ka_ ?_ _)); exact BK228.out) hg (Kd.R_away HO_4.out (fun _ hk => hk.2))); have n1_ := M_ (hb); have n2_ := M_ (ho); clear BK228; clear HB; clear HO_4; have BK228 := n0_; have HB := n1_; have HO231 := n2_; clear n0_ n1_ n2_; clear ho hb hg hat))
         repeat (go_quiet (first | ((with_reducible refine gate_dst (N := 6) rfl ?_); refine box_event ?hg (N := 6) ?hd (cs := #[.int .i64 0, .int .i64 0]) (t := 41) ?hr ?_; (case hd => rfl); (case hg => rfl); (case hr => first | (go_simp; done) | (go_simp; rfl)); intro gb228 hg w10 hbox hb; have n0_ := M_ (rb_ (Kd.R_elderB (rU_ HO_4.out) gb228 (Nat.le_of_eq hg.symm)) hb); have n1_ := M_ (bS_ hb); have n2_ := M_ (hbox); have n3_ := M_ ((by rw [hg]; exact bZ_ : w.heap.size ≤ gb228)); have n4_ := M_ ((by rw [hg]; exact bZ_ : w.heap.size ≤ gb228)); clear HO_4; clear HB; have HO_4 := n0_; have HB := n1_; have BK228 := n2_; have GW228 := n3_; have GE228 := n4_; clear n0_ n1_ n2_ n3_ n4_; clear hb hbox hg; have hcz11_0 : w10.cell? ⟨gb228, 0, none⟩ = some (.int .i64 0) := (blk_cell BK228.out 0).trans rfl; have hcz11_1 : w10.cell? ⟨gb228, 1, none⟩ = some (.int .i64 0) := (blk_cell BK228.out 1).trans rfl; have hfz11_0 := blk_frozen BK228.out 0; have hfz11_1 := blk_frozen BK228.out 1) | ((with_reducible refine gate_builtin (b := .append) (xs := #[.tmp 30, .tmp 32]) rfl ?_); at_builtin; refine Kd.R_append k41 (w0 := w) w.heap.size rfl (.tmp 30) (.tmp 32) 23 41 (.agg #[(.int .i64 0), (.int .i64 0)]) 16 rfl Try.underlying23 info41 rfl (by decide) (by omega) u4 x4_1 (⟨(rd_T41 l0 x12_1).f0, (rd_T41 l0 x12_1).f1⟩ : S41) [.int .i64 ((rd_T41 l0 x12_1).f0), .int .i64 ((rd_T41 l0 x12_1).f1)] (fun k_ => k_ ≠ gb228) (fun _ => False) rfl (by first | (go_simp; done) | (go_simp; rfl)) ?aP (fun _ hk => hk.elim) ?aF ?aO ?aB ?aS ?aL ?_; (case aP => exact k41_mkM _ _ _ (⟨(rd_T41 l0 x12_1).f0, (rd_T41 l0 x12_1).f1⟩ : S41)); (case aB => exact (by repeat (first | (with_reducible first | exact HB.out | apply ba_ | apply bn_ | apply b1_ | refine bs_ ?_ GE228.out) | exact HB.out))); (case aF => exact (fun k_ hk => Kd.freshB (g := gb228) (o := .cells #[.int .i64 ((rd_T41 l0 x12_1).f0), .int .i64 ((rd_T41 l0 x12_1).f1)] 41 (0, 0)) (by (with_reducible repeat (first | refine kn_ ?_ _ | refine kd_ ?_ | refine ka_ ?_ _)); refine blk_put (cs := #[.int .i64 ((rd_T41 l0 x12_1).f0), .int .i64 0]) ?_ 1 _ rfl; (with_reducible repeat (first | refine kn_ ?_ _ | refine kd_ ?_ | refine ka_ ?_ _)); refine blk_put (cs := #[.int .i64 0, .int .i64 0]) ?_ 0 _ rfl; (with_reducible repeat (first | refine kn_ ?_ _ | refine kd_ ?_ | refine ka_ ?_ _)); exact BK228.out) k_ hk)); (case aO => exact (by (with_reducible repeat (first | apply ra_ | apply rn_ | apply rd_)); exact rm_ (Kd.R_far (p := ⟨gb228, 1, none⟩) (Kd.R_far (p := ⟨gb228, 0, none⟩) (rm_ HO_4.out (fun k_ hk => (⟨hk, hk.2⟩ : _ ∧ k_ ≠ gb228))) (fun _ hk => hk.2) (.int .i64 ((rd_T41 l0 x12_1).f0))) (fun _ hk => hk.2) (.int .i64 ((rd_T41 l0 x12_1).f1))) (fun _ hk => hk.1.2))); (case aS => exact (below_size (by repeat (first | (with_reducible first | exact HB.out | apply ba_ | apply bn_ | apply b1_ | refine bs_ ?_ GE228.out) | exact HB.out)))); (case aL => have := LMc9.out; omega); intro v230 w12 ho hb hg hat; rw [← Ny229.out] at ho; have n0_ := M_ (blk_grown (g := gb228) (o := .cells #[.int .i64 ((rd_T41 l0 x12_1).f0), .int .i64 ((rd_T41 l0 x12_1).f1)] 41 (0, 0)) (by (with_reducible repeat (first | refine kn_ ?_ _ | refine kd_ ?_ | refine ka_ ?_ _)); refine blk_put (cs := #[.int .i64 ((rd_T41 l0 x12_1).f0), .int .i64 0]) ?_ 1 _ rfl; (with_reducible repeat (first | refine kn_ ?_ _ | refine kd_ ?_ | refine ka_ ?_ _)); refine blk_put (cs := #[.int .i64 0, .int .i64 0]) ?_ 0 _ rfl; (with_reducible repeat (first | refine kn_ ?_ _ | refine kd_ ?_ | refine ka_ ?_ _)); exact BK228.out) hg (Kd.R_away HO_4.out (fun _ hk => hk.2))); have n1_ := M_ (hb); have n2_ := M_ (ho); clear BK228; clear HB; clear HO_4; have BK228 := n0_; have HB := n1_; have HO231 := n2_; clear n0_ n1_ n2_; clear ho hb hg hat)); try go_wp2_with (first | ((with_reducible refine gate_dst (N := 6) rfl ?_); refine box_event ?hg (N := 6) ?hd (cs := #[.int .i64 0, .int .i64 0]) (t := 41) ?hr ?_; (case hd => rfl); (case hg => rfl); (case hr => first | (go_simp; done) | (go_simp; rfl)); intro gb228 hg w10 hbox hb; have n0_ := M_ (rb_ (Kd.R_elderB (rU_ HO_4.out) gb228 (Nat.le_of_eq hg.symm)) hb); have n1_ := M_ (bS_ hb); have n2_ := M_ (hbox); have n3_ := M_ ((by rw [hg]; exact bZ_ : w.heap.size ≤ gb228)); have n4_ := M_ ((by rw [hg]; exact bZ_ : w.heap.size ≤ gb228)); clear HO_4; clear HB; have HO_4 := n0_; have HB := n1_; have BK228 := n2_; have GW228 := n3_; have GE228 := n4_; clear n0_ n1_ n2_ n3_ n4_; clear hb hbox hg; have hcz11_0 : w10.cell? ⟨gb228, 0, none⟩ = some (.int .i64 0) := (blk_cell BK228.out 0).trans rfl; have hcz11_1 : w10.cell? ⟨gb228, 1, none⟩ = some (.int .i64 0) := (blk_cell BK228.out 1).trans rfl; have hfz11_0 := blk_frozen BK228.out 0; have hfz11_1 := blk_frozen BK228.out 1) | ((with_reducible refine gate_builtin (b := .append) (xs := #[.tmp 30, .tmp 32]) rfl ?_); at_builtin; refine Kd.R_append k41 (w0 := w) w.heap.size rfl (.tmp 30) (.tmp 32) 23 41 (.agg #[(.int .i64 0), (.int .i64 0)]) 16 rfl Try.underlying23 info41 rfl (by decide) (by omega) u4 x4_1 (⟨(rd_T41 l0 x12_1).f0, (rd_T41 l0 x12_1).f1⟩ : S41) [.int .i64 ((rd_T41 l0 x12_1).f0), .int .i64 ((rd_T41 l0 x12_1).f1)] (fun k_ => k_ ≠ gb228) (fun _ => False) rfl (by first | (go_simp; done) | (go_simp; rfl)) ?aP (fun _ hk => hk.elim) ?aF ?aO ?aB ?aS ?aL ?_; (case aP => exact k41_mkM _ _ _ (⟨(rd_T41 l0 x12_1).f0, (rd_T41 l0 x12_1).f1⟩ : S41)); (case aB => exact (by repeat (first | (with_reducible first | exact HB.out | apply ba_ | apply bn_ | apply b1_ | refine bs_ ?_ GE228.out) | exact HB.out))); (case aF => exact (fun k_ hk => Kd.freshB (g := gb228) (o := .cells #[.int .i64 ((rd_T41 l0 x12_1).f0), .int .i64 ((rd_T41 l0 x12_1).f1)] 41 (0, 0)) (by (with_reducible repeat (first | refine kn_ ?_ _ | refine kd_ ?_ | refine ka_ ?_ _)); refine blk_put (cs := #[.int .i64 ((rd_T41 l0 x12_1).f0), .int .i64 0]) ?_ 1 _ rfl; (with_reducible repeat (first | refine kn_ ?_ _ | refine kd_ ?_ | refine ka_ ?_ _)); refine blk_put (cs := #[.int .i64 0, .int .i64 0]) ?_ 0 _ rfl; (with_reducible repeat (first | refine kn_ ?_ _ | refine kd_ ?_ | refine ka_ ?_ _)); exact BK228.out) k_ hk)); (case aO => exact (by (with_reducible repeat (first | apply ra_ | apply rn_ | apply rd_)); exact rm_ (Kd.R_far (p := ⟨gb228, 1, none⟩) (Kd.R_far (p := ⟨gb228, 0, none⟩) (rm_ HO_4.out (fun k_ hk => (⟨hk, hk.2⟩ : _ ∧ k_ ≠ gb228))) (fun _ hk => hk.2) (.int .i64 ((rd_T41 l0 x12_1).f0))) (fun _ hk => hk.2) (.int .i64 ((rd_T41 l0 x12_1).f1))) (fun _ hk => hk.1.2))); (case aS => exact (below_size (by repeat (first | (with_reducible first | exact HB.out | apply ba_ | apply bn_ | apply b1_ | refine bs_ ?_ GE228.out) | exact HB.out)))); (case aL => have := LMc9.out; omega); intro v230 w12 ho hb hg hat; rw [← Ny229.out] at ho; have n0_ := M_ (blk_grown (g := gb228) (o := .cells #[.int .i64 ((rd_T41 l0 x12_1).f0), .int .i64 ((rd_T41 l0 x12_1).f1)] 41 (0, 0)) (by (with_reducible repeat (first | refine kn_ ?_ _ | refine kd_ ?_ | refine ka_ ?_ _)); refine blk_put (cs := #[.int .i64 ((rd_T41 l0 x12_1).f0), .int .i64 0]) ?_ 1 _ rfl; (with_reducible repeat (first | refine kn_ ?_ _ | refine kd_ ?_ | refine ka_ ?_ _)); refine blk_put (cs := #[.int .i64 0, .int .i64 0]) ?_ 0 _ rfl; (with_reducible repeat (first | refine kn_ ?_ _ | refine kd_ ?_ | refine ka_ ?_ _)); exact BK228.out) hg (Kd.R_away HO_4.out (fun _ hk => hk.2))); have n1_ := M_ (hb); have n2_ := M_ (ho); clear BK228; clear HB; clear HO_4; have BK228 := n0_; have HB := n1_; have HO231 := n2_; clear n0_ n1_ n2_; clear ho hb hg hat)))
         go_roundg k1
         case measure => have := HK1.out; omega
         case rel => exact ⟨(y229), (wrap64 (x12_1 + 1)), (by first | rfl | (simp; done) | (simp [*]; done)), H', ⟨by have := HK1.out; omega⟩, ⟨by (with_reducible repeat (first | apply ra_ | apply rn_ | apply rd_)); exact rm_ HO231.out (fun _ hk => trivial)⟩, ⟨by repeat (first | (with_reducible first | exact HB.out | apply ba_ | apply bn_ | apply b1_ | refine bs_ ?_ GE228.out) | exact HB.out)⟩⟩
        ·rw [if_neg c9] at H
         exact absurd H (by simp)
       ·rw [if_neg c8] at H
        have c8b0 : (x12_1 == 0) = false := beq_eq_false_iff_ne.mpr c8
        have c8b1 : (x12_1 != 0) = true := bne_iff_ne.mpr c8
        obtain ⟨ji13, hji13⟩ : ∃ j_ : Int, (wrap64 (x12_1 - 1)) = j_ := ⟨_, rfl⟩
        replace H : (if 0 ≤ (ji13) then (if (ji13) < (l0.length : Int) then (if ((rd_T41 l0 x12_1).f1) = ((rd_T41 l0 (ji13)).f1) then (spec_SimpleTempos.l0 k1 l0 x4_1 l0 (l0.length : Int) (wrap64 (x12_1 + 1))) else (if x4_1.length < 8796093022208 then (spec_SimpleTempos.l0 k1 l0 (x4_1 ++ [(⟨(rd_T41 l0 x12_1).f0, (rd_T41 l0 x12_1).f1⟩ : S41)]) l0 (l0.length : Int) (wrap64 (x12_1 + 1))) else (none))) else (none)) else (none)) = some (r1, r2) := by first | (rw [hji13] at H; exact H) | (simp only [hji13] at H ⊢; exact H)
        have hji13w : (IntKind.i64.wrap (x12_1 - 1)) = ji13 := (i64_w _).trans hji13
        by_cases c14 : 0 ≤ (ji13)
        ·rw [if_pos c14] at H
         have c14b0 : decide (0 ≤ (ji13)) = true := decide_eq_true c14
         clear c14
         by_cases c15 : (ji13) < (l0.length : Int)
         ·rw [if_pos c15] at H
          have c15b0 : decide ((ji13) < (l0.length : Int)) = true := decide_eq_true c15
          clear c15
          by_cases c16 : ((rd_T41 l0 x12_1).f1) = ((rd_T41 l0 (ji13)).f1)
          ·rw [if_pos c16] at H
           have c16b0 : (((rd_T41 l0 x12_1).f1) == ((rd_T41 l0 (ji13)).f1)) = true := beq_iff_eq.mpr c16
           have c16b1 : (((rd_T41 l0 x12_1).f1) != ((rd_T41 l0 (ji13)).f1)) = false := bne_eq_false_iff_eq.mpr c16
           clear c16
           have H' := M_ H
           clear H
           have p227 : 0 ≤ (x12_1 : Int) := dT_
           have q227 : x12_1 < (l0.length : Int) := dT_
           obtain ⟨ad227, e227, hx227_0, hx227_1⟩ := at_T41 HR0.out x12_1 p227 q227
           cases e227
           replace hx227_0 := (HB.out.cell (World.block_lt_of_cell? w _ hx227_0)).trans hx227_0
           replace hx227_1 := (HB.out.cell (World.block_lt_of_cell? w _ hx227_1)).trans hx227_1
           replace p227 := eq_true p227
           replace q227 := eq_true q227
           go_wp2_with (first | ((with_reducible refine gate_dst (N := 6) rfl ?_); refine box_event ?hg (N := 6) ?hd (cs := #[.int .i64 0, .int .i64 0]) (t := 41) ?hr ?_; (case hd => rfl); (case hg => rfl); (case hr => first | (go_simp; done) | (go_simp; rfl)); intro gb228 hg w17 hbox hb; have n0_ := M_ (rb_ (Kd.R_elderB (rU_ HO_4.out) gb228 (Nat.le_of_eq hg.symm)) hb); have n1_ := M_ (bS_ hb); have n2_ := M_ (hbox); have n3_ := M_ ((by rw [hg]; exact bZ_ : w.heap.size ≤ gb228)); have n4_ := M_ ((by rw [hg]; exact bZ_ : w.heap.size ≤ gb228)); clear HO_4; clear HB; have HO_4 := n0_; have HB := n1_; have BK228 := n2_; have GW228 := n3_; have GE228 := n4_; clear n0_ n1_ n2_ n3_ n4_; clear hb hbox hg; have hcz18_0 : w17.cell? ⟨gb228, 0, none⟩ = some (.int .i64 0) := (blk_cell BK228.out 0).trans rfl; have hcz18_1 : w17.cell? ⟨gb228, 1, none⟩ = some (.int .i64 0) := (blk_cell BK228.out 1).trans rfl; have hfz18_0 := blk_frozen BK228.out 0; have hfz18_1 := blk_frozen BK228.out 1; have p232 : 0 ≤ ((ji13) : Int) := dT_; have q232 : (ji13) < (l0.length : Int) := dT_; obtain ⟨ad232, e232, hx232_0, hx232_1⟩ := at_T41 HR0.out (ji13) p232 q232; obtain rfl : ad227 = ad232 := (by injection e232); have hn232_0 : ad227.block ≠ gb228 := Nat.ne_of_lt (Nat.lt_of_lt_of_le (by have := World.block_lt_of_cell? _ _ hx232_0; first | rwa [add_block] at this | exact this) GW228.out); have hn232_1 : ad227.block ≠ gb228 := Nat.ne_of_lt (Nat.lt_of_lt_of_le (by have := World.block_lt_of_cell? _ _ hx232_0; first | rwa [add_block] at this | exact this) GW228.out); replace hx232_0 := (HB.out.cell (World.block_lt_of_cell? w _ hx232_0)).trans hx232_0; replace hx232_1 := (HB.out.cell (World.block_lt_of_cell? w _ hx232_1)).trans hx232_1; replace hx232_0 := (cell_far (p := ⟨gb228, 0, none⟩) (by first | (rw [add_block]; exact hn232_0) | (show (Addr.add _ _).block ≠ _; rw [add_block]; exact hn232_0) | exact hn232_0) (.int .i64 ((rd_T41 l0 x12_1).f0))).trans hx232_0; replace hx232_1 := (cell_far (p := ⟨gb228, 0, none⟩) (by first | (rw [add_block]; exact hn232_0) | (show (Addr.add _ _).block ≠ _; rw [add_block]; exact hn232_0) | exact hn232_0) (.int .i64 ((rd_T41 l0 x12_1).f0))).trans hx232_1; replace hx232_0 := (cell_far (p := ⟨gb228, 1, none⟩) (by first | (rw [add_block]; exact hn232_1) | (show (Addr.add _ _).block ≠ _; rw [add_block]; exact hn232_1) | exact hn232_1) (.int .i64 ((rd_T41 l0 x12_1).f1))).trans hx232_0; replace hx232_1 := (cell_far (p := ⟨gb228, 1, none⟩) (by first | (rw [add_block]; exact hn232_1) | (show (Addr.add _ _).block ≠ _; rw [add_block]; exact hn232_1) | exact hn232_1) (.int .i64 ((rd_T41 l0 x12_1).f1))).trans hx232_1; (try have hy232_0 := fun (n_ : Nat) => (show ((((w17.drewN n_).setCell ⟨gb228, 0, none⟩ (.int .i64 ((rd_T41 l0 x12_1).f0))).setCell ⟨gb228, 1, none⟩ (.int .i64 ((rd_T41 l0 x12_1).f1)))).cell? _ = some _ from hx232_0)); (try have hy232_1 := fun (n_ : Nat) => (show ((((w17.drewN n_).setCell ⟨gb228, 0, none⟩ (.int .i64 ((rd_T41 l0 x12_1).f0))).setCell ⟨gb228, 1, none⟩ (.int .i64 ((rd_T41 l0 x12_1).f1)))).cell? _ = some _ from hx232_1)); clear hn232_0; clear hn232_1; replace p232 := eq_true p232; replace q232 := eq_true q232))
           repeat (go_quiet (first | ((with_reducible refine gate_dst (N := 6) rfl ?_); refine box_event ?hg (N := 6) ?hd (cs := #[.int .i64 0, .int .i64 0]) (t := 41) ?hr ?_; (case hd => rfl); (case hg => rfl); (case hr => first | (go_simp; done) | (go_simp; rfl)); intro gb228 hg w17 hbox hb; have n0_ := M_ (rb_ (Kd.R_elderB (rU_ HO_4.out) gb228 (Nat.le_of_eq hg.symm)) hb); have n1_ := M_ (bS_ hb); have n2_ := M_ (hbox); have n3_ := M_ ((by rw [hg]; exact bZ_ : w.heap.size ≤ gb228)); have n4_ := M_ ((by rw [hg]; exact bZ_ : w.heap.size ≤ gb228)); clear HO_4; clear HB; have HO_4 := n0_; have HB := n1_; have BK228 := n2_; have GW228 := n3_; have GE228 := n4_; clear n0_ n1_ n2_ n3_ n4_; clear hb hbox hg; have hcz18_0 : w17.cell? ⟨gb228, 0, none⟩ = some (.int .i64 0) := (blk_cell BK228.out 0).trans rfl; have hcz18_1 : w17.cell? ⟨gb228, 1, none⟩ = some (.int .i64 0) := (blk_cell BK228.out 1).trans rfl; have hfz18_0 := blk_frozen BK228.out 0; have hfz18_1 := blk_frozen BK228.out 1; have p232 : 0 ≤ ((ji13) : Int) := dT_; have q232 : (ji13) < (l0.length : Int) := dT_; obtain ⟨ad232, e232, hx232_0, hx232_1⟩ := at_T41 HR0.out (ji13) p232 q232; obtain rfl : ad227 = ad232 := (by injection e232); have hn232_0 : ad227.block ≠ gb228 := Nat.ne_of_lt (Nat.lt_of_lt_of_le (by have := World.block_lt_of_cell? _ _ hx232_0; first | rwa [add_block] at this | exact this) GW228.out); have hn232_1 : ad227.block ≠ gb228 := Nat.ne_of_lt (Nat.lt_of_lt_of_le (by have := World.block_lt_of_cell? _ _ hx232_0; first | rwa [add_block] at this | exact this) GW228.out); replace hx232_0 := (HB.out.cell (World.block_lt_of_cell? w _ hx232_0)).trans hx232_0; replace hx232_1 := (HB.out.cell (World.block_lt_of_cell? w _ hx232_1)).trans hx232_1; replace hx232_0 := (cell_far (p := ⟨gb228, 0, none⟩) (by first | (rw [add_block]; exact hn232_0) | (show (Addr.add _ _).block ≠ _; rw [add_block]; exact hn232_0) | exact hn232_0) (.int .i64 ((rd_T41 l0 x12_1).f0))).trans hx232_0; replace hx232_1 := (cell_far (p := ⟨gb228, 0, none⟩) (by first | (rw [add_block]; exact hn232_0) | (show (Addr.add _ _).block ≠ _; rw [add_block]; exact hn232_0) | exact hn232_0) (.int .i64 ((rd_T41 l0 x12_1).f0))).trans hx232_1; replace hx232_0 := (cell_far (p := ⟨gb228, 1, none⟩) (by first | (rw [add_block]; exact hn232_1) | (show (Addr.add _ _).block ≠ _; rw [add_block]; exact hn232_1) | exact hn232_1) (.int .i64 ((rd_T41 l0 x12_1).f1))).trans hx232_0; replace hx232_1 := (cell_far (p := ⟨gb228, 1, none⟩) (by first | (rw [add_block]; exact hn232_1) | (show (Addr.add _ _).block ≠ _; rw [add_block]; exact hn232_1) | exact hn232_1) (.int .i64 ((rd_T41 l0 x12_1).f1))).trans hx232_1; (try have hy232_0 := fun (n_ : Nat) => (show ((((w17.drewN n_).setCell ⟨gb228, 0, none⟩ (.int .i64 ((rd_T41 l0 x12_1).f0))).setCell ⟨gb228, 1, none⟩ (.int .i64 ((rd_T41 l0 x12_1).f1)))).cell? _ = some _ from hx232_0)); (try have hy232_1 := fun (n_ : Nat) => (show ((((w17.drewN n_).setCell ⟨gb228, 0, none⟩ (.int .i64 ((rd_T41 l0 x12_1).f0))).setCell ⟨gb228, 1, none⟩ (.int .i64 ((rd_T41 l0 x12_1).f1)))).cell? _ = some _ from hx232_1)); clear hn232_0; clear hn232_1; replace p232 := eq_true p232; replace q232 := eq_true q232)); try go_wp2_with (first | ((with_reducible refine gate_dst (N := 6) rfl ?_); refine box_event ?hg (N := 6) ?hd (cs := #[.int .i64 0, .int .i64 0]) (t := 41) ?hr ?_; (case hd => rfl); (case hg => rfl); (case hr => first | (go_simp; done) | (go_simp; rfl)); intro gb228 hg w17 hbox hb; have n0_ := M_ (rb_ (Kd.R_elderB (rU_ HO_4.out) gb228 (Nat.le_of_eq hg.symm)) hb); have n1_ := M_ (bS_ hb); have n2_ := M_ (hbox); have n3_ := M_ ((by rw [hg]; exact bZ_ : w.heap.size ≤ gb228)); have n4_ := M_ ((by rw [hg]; exact bZ_ : w.heap.size ≤ gb228)); clear HO_4; clear HB; have HO_4 := n0_; have HB := n1_; have BK228 := n2_; have GW228 := n3_; have GE228 := n4_; clear n0_ n1_ n2_ n3_ n4_; clear hb hbox hg; have hcz18_0 : w17.cell? ⟨gb228, 0, none⟩ = some (.int .i64 0) := (blk_cell BK228.out 0).trans rfl; have hcz18_1 : w17.cell? ⟨gb228, 1, none⟩ = some (.int .i64 0) := (blk_cell BK228.out 1).trans rfl; have hfz18_0 := blk_frozen BK228.out 0; have hfz18_1 := blk_frozen BK228.out 1; have p232 : 0 ≤ ((ji13) : Int) := dT_; have q232 : (ji13) < (l0.length : Int) := dT_; obtain ⟨ad232, e232, hx232_0, hx232_1⟩ := at_T41 HR0.out (ji13) p232 q232; obtain rfl : ad227 = ad232 := (by injection e232); have hn232_0 : ad227.block ≠ gb228 := Nat.ne_of_lt (Nat.lt_of_lt_of_le (by have := World.block_lt_of_cell? _ _ hx232_0; first | rwa [add_block] at this | exact this) GW228.out); have hn232_1 : ad227.block ≠ gb228 := Nat.ne_of_lt (Nat.lt_of_lt_of_le (by have := World.block_lt_of_cell? _ _ hx232_0; first | rwa [add_block] at this | exact this) GW228.out); replace hx232_0 := (HB.out.cell (World.block_lt_of_cell? w _ hx232_0)).trans hx232_0; replace hx232_1 := (HB.out.cell (World.block_lt_of_cell? w _ hx232_1)).trans hx232_1; replace hx232_0 := (cell_far (p := ⟨gb228, 0, none⟩) (by first | (rw [add_block]; exact hn232_0) | (show (Addr.add _ _).block ≠ _; rw [add_block]; exact hn232_0) | exact hn232_0) (.int .i64 ((rd_T41 l0 x12_1).f0))).trans hx232_0; replace hx232_1 := (cell_far (p := ⟨gb228, 0, none⟩) (by first | (rw [add_block]; exact hn232_0) | (show (Addr.add _ _).block ≠ _; rw [add_block]; exact hn232_0) | exact hn232_0) (.int .i64 ((rd_T41 l0 x12_1).f0))).trans hx232_1; replace hx232_0 := (cell_far (p := ⟨gb228, 1, none⟩) (by first | (rw [add_block]; exact hn232_1) | (show (Addr.add _ _).block ≠ _; rw [add_block]; exact hn232_1) | exact hn232_1) (.int .i64 ((rd_T41 l0 x12_1).f1))).trans hx232_0; replace hx232_1 := (cell_far (p := ⟨gb228, 1, none⟩) (by first | (rw [add_block]; exact hn232_1) | (show (Addr.add _ _).block ≠ _; rw [add_block]; exact hn232_1) | exact hn232_1) (.int .i64 ((rd_T41 l0 x12_1).f1))).trans hx232_1; (try have hy232_0 := fun (n_ : Nat) => (show ((((w17.drewN n_).setCell ⟨gb228, 0, none⟩ (.int .i64 ((rd_T41 l0 x12_1).f0))).setCell ⟨gb228, 1, none⟩ (.int .i64 ((rd_T41 l0 x12_1).f1)))).cell? _ = some _ from hx232_0)); (try have hy232_1 := fun (n_ : Nat) => (show ((((w17.drewN n_).setCell ⟨gb228, 0, none⟩ (.int .i64 ((rd_T41 l0 x12_1).f0))).setCell ⟨gb228, 1, none⟩ (.int .i64 ((rd_T41 l0 x12_1).f1)))).cell? _ = some _ from hx232_1)); clear hn232_0; clear hn232_1; replace p232 := eq_true p232; replace q232 := eq_true q232)))
           go_roundg k1
           case measure => have := HK1.out; omega
           case rel => exact ⟨(x4_1), (wrap64 (x12_1 + 1)), (by first | rfl | (simp; done) | (simp [*]; done)), H', ⟨by have := HK1.out; omega⟩, ⟨by (with_reducible repeat (first | apply ra_ | apply rn_ | apply rd_)); exact rm_ (Kd.R_far (p := ⟨gb228, 1, none⟩) (Kd.R_far (p := ⟨gb228, 0, none⟩) (rm_ HO_4.out (fun k_ hk => (⟨hk, hk.2⟩ : _ ∧ k_ ≠ gb228))) (fun _ hk => hk.2) (.int .i64 ((rd_T41 l0 x12_1).f0))) (fun _ hk => hk.2) (.int .i64 ((rd_T41 l0 x12_1).f1))) (fun _ hk => trivial)⟩, ⟨by repeat (first | (with_reducible first | exact HB.out | apply ba_ | apply bn_ | apply b1_ | refine bs_ ?_ GE228.out) | exact HB.out)⟩⟩
          ·rw [if_neg c16] at H
           have c16b0 : (((rd_T41 l0 x12_1).f1) == ((rd_T41 l0 (ji13)).f1)) = false := beq_eq_false_iff_ne.mpr c16
           have c16b1 : (((rd_T41 l0 x12_1).f1) != ((rd_T41 l0 (ji13)).f1)) = true := bne_iff_ne.mpr c16
           by_cases c19 : x4_1.length < 8796093022208
           ·rw [if_pos c19] at H
            have LMc19 := M_ c19
            clear c19
            obtain ⟨y233, hy233⟩ : ∃ y_ : List (S41), y_ = (x4_1 ++ [(⟨(rd_T41 l0 x12_1).f0, (rd_T41 l0 x12_1).f1⟩ : S41)]) := ⟨_, rfl⟩
            replace H : (spec_SimpleTempos.l0 k1 l0 y233 l0 (l0.length : Int) (wrap64 (x12_1 + 1))) = some (r1, r2) := by first | (rw [hy233]; with_reducible exact H) | (have H2_ := (Option.bind_some _ _).symm.trans H; rw [hy233]; with_reducible exact H2_) | (have H2_ := (Option.bind_some _ _).symm.trans H; with_reducible exact H2_) | with_reducible exact H | (rw [hy233]; exact H) | exact H
            have Ny233 := M_ hy233
            clear hy233
            have H' := M_ H
            clear H
            have p227 : 0 ≤ (x12_1 : Int) := dT_
            have q227 : x12_1 < (l0.length : Int) := dT_
            obtain ⟨ad227, e227, hx227_0, hx227_1⟩ := at_T41 HR0.out x12_1 p227 q227
            cases e227
            replace hx227_0 := (HB.out.cell (World.block_lt_of_cell? w _ hx227_0)).trans hx227_0
            replace hx227_1 := (HB.out.cell (World.block_lt_of_cell? w _ hx227_1)).trans hx227_1
            replace p227 := eq_true p227
            replace q227 := eq_true q227
            go_wp2_with (first | ((with_reducible refine gate_dst (N := 6) rfl ?_); refine box_event ?hg (N := 6) ?hd (cs := #[.int .i64 0, .int .i64 0]) (t := 41) ?hr ?_; (case hd => rfl); (case hg => rfl); (case hr => first | (go_simp; done) | (go_simp; rfl)); intro gb228 hg w20 hbox hb; have n0_ := M_ (rb_ (Kd.R_elderB (rU_ HO_4.out) gb228 (Nat.le_of_eq hg.symm)) hb); have n1_ := M_ (bS_ hb); have n2_ := M_ (hbox); have n3_ := M_ ((by rw [hg]; exact bZ_ : w.heap.size ≤ gb228)); have n4_ := M_ ((by rw [hg]; exact bZ_ : w.heap.size ≤ gb228)); clear HO_4; clear HB; have HO_4 := n0_; have HB := n1_; have BK228 := n2_; have GW228 := n3_; have GE228 := n4_; clear n0_ n1_ n2_ n3_ n4_; clear hb hbox hg; have hcz21_0 : w20.cell? ⟨gb228, 0, none⟩ = some (.int .i64 0) := (blk_cell BK228.out 0).trans rfl; have hcz21_1 : w20.cell? ⟨gb228, 1, none⟩ = some (.int .i64 0) := (blk_cell BK228.out 1).trans rfl; have hfz21_0 := blk_frozen BK228.out 0; have hfz21_1 := blk_frozen BK228.out 1; have p232 : 0 ≤ ((ji13) : Int) := dT_; have q232 : (ji13) < (l0.length : Int) := dT_; obtain ⟨ad232, e232, hx232_0, hx232_1⟩ := at_T41 HR0.out (ji13) p232 q232; obtain rfl : ad227 = ad232 := (by injection e232); have hn232_0 : ad227.block ≠ gb228 := Nat.ne_of_lt (Nat.lt_of_lt_of_le (by have := World.block_lt_of_cell? _ _ hx232_0; first | rwa [add_block] at this | exact this) GW228.out); have hn232_1 : ad227.block ≠ gb228 := Nat.ne_of_lt (Nat.lt_of_lt_of_le (by have := World.block_lt_of_cell? _ _ hx232_0; first | rwa [add_block] at this | exact this) GW228.out); replace hx232_0 := (HB.out.cell (World.block_lt_of_cell? w _ hx232_0)).trans hx232_0; replace hx232_1 := (HB.out.cell (World.block_lt_of_cell? w _ hx232_1)).trans hx232_1; replace hx232_0 := (cell_far (p := ⟨gb228, 0, none⟩) (by first | (rw [add_block]; exact hn232_0) | (show (Addr.add _ _).block ≠ _; rw [add_block]; exact hn232_0) | exact hn232_0) (.int .i64 ((rd_T41 l0 x12_1).f0))).trans hx232_0; replace hx232_1 := (cell_far (p := ⟨gb228, 0, none⟩) (by first | (rw [add_block]; exact hn232_0) | (show (Addr.add _ _).block ≠ _; rw [add_block]; exact hn232_0) | exact hn232_0) (.int .i64 ((rd_T41 l0 x12_1).f0))).trans hx232_1; replace hx232_0 := (cell_far (p := ⟨gb228, 1, none⟩) (by first | (rw [add_block]; exact hn232_1) | (show (Addr.add _ _).block ≠ _; rw [add_block]; exact hn232_1) | exact hn232_1) (.int .i64 ((rd_T41 l0 x12_1).f1))).trans hx232_0; replace hx232_1 := (cell_far (p := ⟨gb228, 1, none⟩) (by first | (rw [add_block]; exact hn232_1) | (show (Addr.add _ _).block ≠ _; rw [add_block]; exact hn232_1) | exact hn232_1) (.int .i64 ((rd_T41 l0 x12_1).f1))).trans hx232_1; (try have hy232_0 := fun (n_ : Nat) => (show ((((w20.drewN n_).setCell ⟨gb228, 0, none⟩ (.int .i64 ((rd_T41 l0 x12_1).f0))).setCell ⟨gb228, 1, none⟩ (.int .i64 ((rd_T41 l0 x12_1).f1)))).cell? _ = some _ from hx232_0)); (try have hy232_1 := fun (n_ : Nat) => (show ((((w20.drewN n_).setCell ⟨gb228, 0, none⟩ (.int .i64 ((rd_T41 l0 x12_1).f0))).setCell ⟨gb228, 1, none⟩ (.int .i64 ((rd_T41 l0 x12_1).f1)))).cell? _ = some _ from hx232_1)); clear hn232_0; clear hn232_1; replace p232 := eq_true p232; replace q232 := eq_true q232) | ((with_reducible refine gate_builtin (b := .append) (xs := #[.tmp 30, .tmp 32]) rfl ?_); at_builtin; refine Kd.R_append k41 (w0 := w) w.heap.size rfl (.tmp 30) (.tmp 32) 23 41 (.agg #[(.int .i64 0), (.int .i64 0)]) 16 rfl Try.underlying23 info41 rfl (by decide) (by omega) u4 x4_1 (⟨(rd_T41 l0 x12_1).f0, (rd_T41 l0 x12_1).f1⟩ : S41) [.int .i64 ((rd_T41 l0 x12_1).f0), .int .i64 ((rd_T41 l0 x12_1).f1)] (fun k_ => k_ ≠ gb228) (fun _ => False) rfl (by first | (go_simp; done) | (go_simp; rfl)) ?aP (fun _ hk => hk.elim) ?aF ?aO ?aB ?aS ?aL ?_; (case aP => exact k41_mkM _ _ _ (⟨(rd_T41 l0 x12_1).f0, (rd_T41 l0 x12_1).f1⟩ : S41)); (case aB => exact (by repeat (first | (with_reducible first | exact HB.out | apply ba_ | apply bn_ | apply b1_ | refine bs_ ?_ GE228.out) | exact HB.out))); (case aF => exact (fun k_ hk => Kd.freshB (g := gb228) (o := .cells #[.int .i64 ((rd_T41 l0 x12_1).f0), .int .i64 ((rd_T41 l0 x12_1).f1)] 41 (0, 0)) (by (with_reducible repeat (first | refine kn_ ?_ _ | refine kd_ ?_ | refine ka_ ?_ _)); refine blk_put (cs := #[.int .i64 ((rd_T41 l0 x12_1).f0), .int .i64 0]) ?_ 1 _ rfl; (with_reducible repeat (first | refine kn_ ?_ _ | refine kd_ ?_ | refine ka_ ?_ _)); refine blk_put (cs := #[.int .i64 0, .int .i64 0]) ?_ 0 _ rfl; (with_reducible repeat (first | refine kn_ ?_ _ | refine kd_ ?_ | refine ka_ ?_ _)); exact BK228.out) k_ hk)); (case aO => exact (by (with_reducible repeat (first | apply ra_ | apply rn_ | apply rd_)); exact rm_ (Kd.R_far (p := ⟨gb228, 1, none⟩) (Kd.R_far (p := ⟨gb228, 0, none⟩) (rm_ HO_4.out (fun k_ hk => (⟨hk, hk.2⟩ : _ ∧ k_ ≠ gb228))) (fun _ hk => hk.2) (.int .i64 ((rd_T41 l0 x12_1).f0))) (fun _ hk => hk.2) (.int .i64 ((rd_T41 l0 x12_1).f1))) (fun _ hk => hk.1.2))); (case aS => exact (below_size (by repeat (first | (with_reducible first | exact HB.out | apply ba_ | apply bn_ | apply b1_ | refine bs_ ?_ GE228.out) | exact HB.out)))); (case aL => have := LMc19.out; omega); intro v234 w22 ho hb hg hat; rw [← Ny233.out] at ho; have n0_ := M_ (blk_grown (g := gb228) (o := .cells #[.int .i64 ((rd_T41 l0 x12_1).f0), .int .i64 ((rd_T41 l0 x12_1).f1)] 41 (0, 0)) (by (with_reducible repeat (first | refine kn_ ?_ _ | refine kd_ ?_ | refine ka_ ?_ _)); refine blk_put (cs := #[.int .i64 ((rd_T41 l0 x12_1).f0), .int .i64 0]) ?_ 1 _ rfl; (with_reducible repeat (first | refine kn_ ?_ _ | refine kd_ ?_ | refine ka_ ?_ _)); refine blk_put (cs := #[.int .i64 0, .int .i64 0]) ?_ 0 _ rfl; (with_reducible repeat (first | refine kn_ ?_ _ | refine kd_ ?_ | refine ka_ ?_ _)); exact BK228.out) hg (Kd.R_away HO_4.out (fun _ hk => hk.2))); have n1_ := M_ (hb); have n2_ := M_ (ho); clear BK228; clear HB; clear HO_4; have BK228 := n0_; have HB := n1_; have HO235 := n2_; clear n0_ n1_ n2_; clear ho hb hg hat))
            repeat (go_quiet (first | ((with_reducible refine gate_dst (N := 6) rfl ?_); refine box_event ?hg (N := 6) ?hd (cs := #[.int .i64 0, .int .i64 0]) (t := 41) ?hr ?_; (case hd => rfl); (case hg => rfl); (case hr => first | (go_simp; done) | (go_simp; rfl)); intro gb228 hg w20 hbox hb; have n0_ := M_ (rb_ (Kd.R_elderB (rU_ HO_4.out) gb228 (Nat.le_of_eq hg.symm)) hb); have n1_ := M_ (bS_ hb); have n2_ := M_ (hbox); have n3_ := M_ ((by rw [hg]; exact bZ_ : w.heap.size ≤ gb228)); have n4_ := M_ ((by rw [hg]; exact bZ_ : w.heap.size ≤ gb228)); clear HO_4; clear HB; have HO_4 := n0_; have HB := n1_; have BK228 := n2_; have GW228 := n3_; have GE228 := n4_; clear n0_ n1_ n2_ n3_ n4_; clear hb hbox hg; have hcz21_0 : w20.cell? ⟨gb228, 0, none⟩ = some (.int .i64 0) := (blk_cell BK228.out 0).trans rfl; have hcz21_1 : w20.cell? ⟨gb228, 1, none⟩ = some (.int .i64 0) := (blk_cell BK228.out 1).trans rfl; have hfz21_0 := blk_frozen BK228.out 0; have hfz21_1 := blk_frozen BK228.out 1; have p232 : 0 ≤ ((ji13) : Int) := dT_; have q232 : (ji13) < (l0.length : Int) := dT_; obtain ⟨ad232, e232, hx232_0, hx232_1⟩ := at_T41 HR0.out (ji13) p232 q232; obtain rfl : ad227 = ad232 := (by injection e232); have hn232_0 : ad227.block ≠ gb228 := Nat.ne_of_lt (Nat.lt_of_lt_of_le (by have := World.block_lt_of_cell? _ _ hx232_0; first | rwa [add_block] at this | exact this) GW228.out); have hn232_1 : ad227.block ≠ gb228 := Nat.ne_of_lt (Nat.lt_of_lt_of_le (by have := World.block_lt_of_cell? _ _ hx232_0; first | rwa [add_block] at this | exact this) GW228.out); replace hx232_0 := (HB.out.cell (World.block_lt_of_cell? w _ hx232_0)).trans hx232_0; replace hx232_1 := (HB.out.cell (World.block_lt_of_cell? w _ hx232_1)).trans hx232_1; replace hx232_0 := (cell_far (p := ⟨gb228, 0, none⟩) (by first | (rw [add_block]; exact hn232_0) | (show (Addr.add _ _).block ≠ _; rw [add_block]; exact hn232_0) | exact hn232_0) (.int .i64 ((rd_T41 l0 x12_1).f0))).trans hx232_0; replace hx232_1 := (cell_far (p := ⟨gb228, 0, none⟩) (by first | (rw [add_block]; exact hn232_0) | (show (Addr.add _ _).block ≠ _; rw [add_block]; exact hn232_0) | exact hn232_0) (.int .i64 ((rd_T41 l0 x12_1).f0))).trans hx232_1; replace hx232_0 := (cell_far (p := ⟨gb228, 1, none⟩) (by first | (rw [add_block]; exact hn232_1) | (show (Addr.add _ _).block ≠ _; rw [add_block]; exact hn232_1) | exact hn232_1) (.int .i64 ((rd_T41 l0 x12_1).f1))).trans hx232_0; replace hx232_1 := (cell_far (p := ⟨gb228, 1, none⟩) (by first | (rw [add_block]; exact hn232_1) | (show (Addr.add _ _).block ≠ _; rw [add_block]; exact hn232_1) | exact hn232_1) (.int .i64 ((rd_T41 l0 x12_1).f1))).trans hx232_1; (try have hy232_0 := fun (n_ : Nat) => (show ((((w20.drewN n_).setCell ⟨gb228, 0, none⟩ (.int .i64 ((rd_T41 l0 x12_1).f0))).setCell ⟨gb228, 1, none⟩ (.int .i64 ((rd_T41 l0 x12_1).f1)))).cell? _ = some _ from hx232_0)); (try have hy232_1 := fun (n_ : Nat) => (show ((((w20.drewN n_).setCell ⟨gb228, 0, none⟩ (.int .i64 ((rd_T41 l0 x12_1).f0))).setCell ⟨gb228, 1, none⟩ (.int .i64 ((rd_T41 l0 x12_1).f1)))).cell? _ = some _ from hx232_1)); clear hn232_0; clear hn232_1; replace p232 := eq_true p232; replace q232 := eq_true q232) | ((with_reducible refine gate_builtin (b := .append) (xs := #[.tmp 30, .tmp 32]) rfl ?_); at_builtin; refine Kd.R_append k41 (w0 := w) w.heap.size rfl (.tmp 30) (.tmp 32) 23 41 (.agg #[(.int .i64 0), (.int .i64 0)]) 16 rfl Try.underlying23 info41 rfl (by decide) (by omega) u4 x4_1 (⟨(rd_T41 l0 x12_1).f0, (rd_T41 l0 x12_1).f1⟩ : S41) [.int .i64 ((rd_T41 l0 x12_1).f0), .int .i64 ((rd_T41 l0 x12_1).f1)] (fun k_ => k_ ≠ gb228) (fun _ => False) rfl (by first | (go_simp; done) | (go_simp; rfl)) ?aP (fun _ hk => hk.elim) ?aF ?aO ?aB ?aS ?aL ?_; (case aP => exact k41_mkM _ _ _ (⟨(rd_T41 l0 x12_1).f0, (rd_T41 l0 x12_1).f1⟩ : S41)); (case aB => exact (by repeat (first | (with_reducible first | exact HB.out | apply ba_ | apply bn_ | apply b1_ | refine bs_ ?_ GE228.out) | exact HB.out))); (case aF => exact (fun k_ hk => Kd.freshB (g := gb228) (o := .cells #[.int .i64 ((rd_T41 l0 x12_1).f0), .int .i64 ((rd_T41 l0 x12_1).f1)] 41 (0, 0)) (by (with_reducible repeat (first | refine kn_ ?_ _ | refine kd_ ?_ | refine ka_ ?_ _)); refine blk_put (cs := #[.int .i64 ((rd_T41 l0 x12_1).f0), .int .i64 0]) ?_ 1 _ rfl; (with_reducible repeat (first | refine kn_ ?_ _ | refine kd_ ?_ | refine ka_ ?_ _)); refine blk_put (cs := #[.int .i64 0, .int .i64 0]) ?_ 0 _ rfl; (with_reducible repeat (first | refine kn_ ?_ _ | refine kd_ ?_ | refine ka_ ?_ _)); exact BK228.out) k_ hk)); (case aO => exact (by (with_reducible repeat (first | apply ra_ | apply rn_ | apply rd_)); exact rm_ (Kd.R_far (p := ⟨gb228, 1, none⟩) (Kd.R_far (p := ⟨gb228, 0, none⟩) (rm_ HO_4.out (fun k_ hk => (⟨hk, hk.2⟩ : _ ∧ k_ ≠ gb228))) (fun _ hk => hk.2) (.int .i64 ((rd_T41 l0 x12_1).f0))) (fun _ hk => hk.2) (.int .i64 ((rd_T41 l0 x12_1).f1))) (fun _ hk => hk.1.2))); (case aS => exact (below_size (by repeat (first | (with_reducible first | exact HB.out | apply ba_ | apply bn_ | apply b1_ | refine bs_ ?_ GE228.out) | exact HB.out)))); (case aL => have := LMc19.out; omega); intro v234 w22 ho hb hg hat; rw [← Ny233.out] at ho; have n0_ := M_ (blk_grown (g := gb228) (o := .cells #[.int .i64 ((rd_T41 l0 x12_1).f0), .int .i64 ((rd_T41 l0 x12_1).f1)] 41 (0, 0)) (by (with_reducible repeat (first | refine kn_ ?_ _ | refine kd_ ?_ | refine ka_ ?_ _)); refine blk_put (cs := #[.int .i64 ((rd_T41 l0 x12_1).f0), .int .i64 0]) ?_ 1 _ rfl; (with_reducible repeat (first | refine kn_ ?_ _ | refine kd_ ?_ | refine ka_ ?_ _)); refine blk_put (cs := #[.int .i64 0, .int .i64 0]) ?_ 0 _ rfl; (with_reducible repeat (first | refine kn_ ?_ _ | refine kd_ ?_ | refine ka_ ?_ _)); exact BK228.out) hg (Kd.R_away HO_4.out (fun _ hk => hk.2))); have n1_ := M_ (hb); have n2_ := M_ (ho); clear BK228; clear HB; clear HO_4; have BK228 := n0_; have HB := n1_; have HO235 := n2_; clear n0_ n1_ n2_; clear ho hb hg hat)); try go_wp2_with (first | ((with_reducible refine gate_dst (N := 6) rfl ?_); refine box_event ?hg (N := 6) ?hd (cs := #[.int .i64 0, .int .i64 0]) (t := 41) ?hr ?_; (case hd => rfl); (case hg => rfl); (case hr => first | (go_simp; done) | (go_simp; rfl)); intro gb228 hg w20 hbox hb; have n0_ := M_ (rb_ (Kd.R_elderB (rU_ HO_4.out) gb228 (Nat.le_of_eq hg.symm)) hb); have n1_ := M_ (bS_ hb); have n2_ := M_ (hbox); have n3_ := M_ ((by rw [hg]; exact bZ_ : w.heap.size ≤ gb228)); have n4_ := M_ ((by rw [hg]; exact bZ_ : w.heap.size ≤ gb228)); clear HO_4; clear HB; have HO_4 := n0_; have HB := n1_; have BK228 := n2_; have GW228 := n3_; have GE228 := n4_; clear n0_ n1_ n2_ n3_ n4_; clear hb hbox hg; have hcz21_0 : w20.cell? ⟨gb228, 0, none⟩ = some (.int .i64 0) := (blk_cell BK228.out 0).trans rfl; have hcz21_1 : w20.cell? ⟨gb228, 1, none⟩ = some (.int .i64 0) := (blk_cell BK228.out 1).trans rfl; have hfz21_0 := blk_frozen BK228.out 0; have hfz21_1 := blk_frozen BK228.out 1; have p232 : 0 ≤ ((ji13) : Int) := dT_; have q232 : (ji13) < (l0.length : Int) := dT_; obtain ⟨ad232, e232, hx232_0, hx232_1⟩ := at_T41 HR0.out (ji13) p232 q232; obtain rfl : ad227 = ad232 := (by injection e232); have hn232_0 : ad227.block ≠ gb228 := Nat.ne_of_lt (Nat.lt_of_lt_of_le (by have := World.block_lt_of_cell? _ _ hx232_0; first | rwa [add_block] at this | exact this) GW228.out); have hn232_1 : ad227.block ≠ gb228 := Nat.ne_of_lt (Nat.lt_of_lt_of_le (by have := World.block_lt_of_cell? _ _ hx232_0; first | rwa [add_block] at this | exact this) GW228.out); replace hx232_0 := (HB.out.cell (World.block_lt_of_cell? w _ hx232_0)).trans hx232_0; replace hx232_1 := (HB.out.cell (World.block_lt_of_cell? w _ hx232_1)).trans hx232_1; replace hx232_0 := (cell_far (p := ⟨gb228, 0, none⟩) (by first | (rw [add_block]; exact hn232_0) | (show (Addr.add _ _).block ≠ _; rw [add_block]; exact hn232_0) | exact hn232_0) (.int .i64 ((rd_T41 l0 x12_1).f0))).trans hx232_0; replace hx232_1 := (cell_far (p := ⟨gb228, 0, none⟩) (by first | (rw [add_block]; exact hn232_0) | (show (Addr.add _ _).block ≠ _; rw [add_block]; exact hn232_0) | exact hn232_0) (.int .i64 ((rd_T41 l0 x12_1).f0))).trans hx232_1; replace hx232_0 := (cell_far (p := ⟨gb228, 1, none⟩) (by first | (rw [add_block]; exact hn232_1) | (show (Addr.add _ _).block ≠ _; rw [add_block]; exact hn232_1) | exact hn232_1) (.int .i64 ((rd_T41 l0 x12_1).f1))).trans hx232_0; replace hx232_1 := (cell_far (p := ⟨gb228, 1, none⟩) (by first | (rw [add_block]; exact hn232_1) | (show (Addr.add _ _).block ≠ _; rw [add_block]; exact hn232_1) | exact hn232_1) (.int .i64 ((rd_T41 l0 x12_1).f1))).trans hx232_1; (try have hy232_0 := fun (n_ : Nat) => (show ((((w20.drewN n_).setCell ⟨gb228, 0, none⟩ (.int .i64 ((rd_T41 l0 x12_1).f0))).setCell ⟨gb228, 1, none⟩ (.int .i64 ((rd_T41 l0 x12_1).f1)))).cell? _ = some _ from hx232_0)); (try have hy232_1 := fun (n_ : Nat) => (show ((((w20.drewN n_).setCell ⟨gb228, 0, none⟩ (.int .i64 ((rd_T41 l0 x12_1).f0))).setCell ⟨gb228, 1, none⟩ (.int .i64 ((rd_T41 l0 x12_1).f1)))).cell? _ = some _ from hx232_1)); clear hn232_0; clear hn232_1; replace p232 := eq_true p232; replace q232 := eq_true q232) | ((with_reducible refine gate_builtin (b := .append) (xs := #[.tmp 30, .tmp 32]) rfl ?_); at_builtin; refine Kd.R_append k41 (w0 := w) w.heap.size rfl (.tmp 30) (.tmp 32) 23 41 (.agg #[(.int .i64 0), (.int .i64 0)]) 16 rfl Try.underlying23 info41 rfl (by decide) (by omega) u4 x4_1 (⟨(rd_T41 l0 x12_1).f0, (rd_T41 l0 x12_1).f1⟩ : S41) [.int .i64 ((rd_T41 l0 x12_1).f0), .int .i64 ((rd_T41 l0 x12_1).f1)] (fun k_ => k_ ≠ gb228) (fun _ => False) rfl (by first | (go_simp; done) | (go_simp; rfl)) ?aP (fun _ hk => hk.elim) ?aF ?aO ?aB ?aS ?aL ?_; (case aP => exact k41_mkM _ _ _ (⟨(rd_T41 l0 x12_1).f0, (rd_T41 l0 x12_1).f1⟩ : S41)); (case aB => exact (by repeat (first | (with_reducible first | exact HB.out | apply ba_ | apply bn_ | apply b1_ | refine bs_ ?_ GE228.out) | exact HB.out))); (case aF => exact (fun k_ hk => Kd.freshB (g := gb228) (o := .cells #[.int .i64 ((rd_T41 l0 x12_1).f0), .int .i64 ((rd_T41 l0 x12_1).f1)] 41 (0, 0)) (by (with_reducible repeat (first | refine kn_ ?_ _ | refine kd_ ?_ | refine ka_ ?_ _)); refine blk_put (cs := #[.int .i64 ((rd_T41 l0 x12_1).f0), .int .i64 0]) ?_ 1 _ rfl; (with_reducible repeat (first | refine kn_ ?_ _ | refine kd_ ?_ | refine ka_ ?_ _)); refine blk_put (cs := #[.int .i64 0, .int .i64 0]) ?_ 0 _ rfl; (with_reducible repeat (first | refine kn_ ?_ _ | refine kd_ ?_ | refine ka_ ?_ _)); exact BK228.out) k_ hk)); (case aO => exact (by (with_reducible repeat (first | apply ra_ | apply rn_ | apply rd_)); exact rm_ (Kd.R_far (p := ⟨gb228, 1, none⟩) (Kd.R_far (p := ⟨gb228, 0, none⟩) (rm_ HO_4.out (fun k_ hk => (⟨hk, hk.2⟩ : _ ∧ k_ ≠ gb228))) (fun _ hk => hk.2) (.int .i64 ((rd_T41 l0 x12_1).f0))) (fun _ hk => hk.2) (.int .i64 ((rd_T41 l0 x12_1).f1))) (fun _ hk => hk.1.2))); (case aS => exact (below_size (by repeat (first | (with_reducible first | exact HB.out | apply ba_ | apply bn_ | apply b1_ | refine bs_ ?_ GE228.out) | exact HB.out)))); (case aL => have := LMc19.out; omega); intro v234 w22 ho hb hg hat; rw [← Ny233.out] at ho; have n0_ := M_ (blk_grown (g := gb228) (o := .cells #[.int .i64 ((rd_T41 l0 x12_1).f0), .int .i64 ((rd_T41 l0 x12_1).f1)] 41 (0, 0)) (by (with_reducible repeat (first | refine kn_ ?_ _ | refine kd_ ?_ | refine ka_ ?_ _)); refine blk_put (cs := #[.int .i64 ((rd_T41 l0 x12_1).f0), .int .i64 0]) ?_ 1 _ rfl; (with_reducible repeat (first | refine kn_ ?_ _ | refine kd_ ?_ | refine ka_ ?_ _)); refine blk_put (cs := #[.int .i64 0, .int .i64 0]) ?_ 0 _ rfl; (with_reducible repeat (first | refine kn_ ?_ _ | refine kd_ ?_ | refine ka_ ?_ _)); exact BK228.out) hg (Kd.R_away HO_4.out (fun _ hk => hk.2))); have n1_ := M_ (hb); have n2_ := M_ (ho); clear BK228; clear HB; clear HO_4; have BK228 := n0_; have HB := n1_; have HO235 := n2_; clear n0_ n1_ n2_; clear ho hb hg hat)))
            go_roundg k1
            case measure => have := HK1.out; omega
            case rel => exact ⟨(y233), (wrap64 (x12_1 + 1)), (by first | rfl | (simp; done) | (simp [*]; done)), H', ⟨by have := HK1.out; omega⟩, ⟨by (with_reducible repeat (first | apply ra_ | apply rn_ | apply rd_)); exact rm_ HO235.out (fun _ hk => trivial)⟩, ⟨by repeat (first | (with_reducible first | exact HB.out | apply ba_ | apply bn_ | apply b1_ | refine bs_ ?_ GE228.out) | exact HB.out)⟩⟩
           ·rw [if_neg c19] at H
            exact absurd H (by simp)
         ·rw [if_neg c15] at H
          exact absurd H (by simp)
        ·rw [if_neg c14] at H
         exact absurd H (by simp)
      ·rw [if_neg c7] at H
       exact absurd H (by simp)
     ·rw [if_neg c6] at H
      exact absurd H (by simp)
    ·rw [if_neg c5] at H
     have c5b0 : decide (x12_1 < (l0.length : Int)) = false := decide_eq_false c5
     clear c5
     simp only [Option.some.injEq, Prod.mk.injEq] at H
     obtain ⟨rfl, rfl⟩ := H
     go_wp2
     repeat (go_quiet (fail); try go_wp2)
     go_ret2
     exact ⟨_, by first | rfl | (simp [errW_none, errW_some] <;> rfl) | (simp [*, errW_none, errW_some] <;> rfl), by (with_reducible repeat (first | apply ra_ | apply rn_ | apply rd_)); exact HO_4.out, by repeat (first | (with_reducible first | exact HB.out | apply ba_ | apply bn_ | apply b1_) | exact HB.out)⟩
 ·replace c3 := Bool.eq_false_iff.mpr c3
  subst c3
  have H1 : (some (([] : List (S41)), false)) = some (r1, r2) := by rw [if_neg (show ¬ (false = true) by decide)] at H; exact H
  clear H
  have H := H1
  clear H1
  simp only [Option.some.injEq, Prod.mk.injEq] at H
  obtain ⟨rfl, rfl⟩ := H
  go_enter Try.func10, Try.ntmps10
  go_wp2_with (first | (go_at_call 66; (with_reducible refine (spec_teGood.calls k _ _ l0 false _ ?side1 ?side2 A2.out).mono ?_); (case side1 => exact cU_ HR0.out); (case side2 => exact HC0.out); rintro e w23 ⟨rfl, hb⟩; have n0_ := M_ (bS_ hb); clear HB; have HB := n0_; clear n0_; (try clear hb); (try clear hb2); (try clear hk); (try clear hi)))
  repeat (go_quiet (first | (go_at_call 66; (with_reducible refine (spec_teGood.calls k _ _ l0 false _ ?side1 ?side2 A2.out).mono ?_); (case side1 => exact cU_ HR0.out); (case side2 => exact HC0.out); rintro e w23 ⟨rfl, hb⟩; have n0_ := M_ (bS_ hb); clear HB; have HB := n0_; clear n0_; (try clear hb); (try clear hb2); (try clear hk); (try clear hi))); try go_wp2_with (first | (go_at_call 66; (with_reducible refine (spec_teGood.calls k _ _ l0 false _ ?side1 ?side2 A2.out).mono ?_); (case side1 => exact cU_ HR0.out); (case side2 => exact HC0.out); rintro e w23 ⟨rfl, hb⟩; have n0_ := M_ (bS_ hb); clear HB; have HB := n0_; clear n0_; (try clear hb); (try clear hb2); (try clear hk); (try clear hi))))
  go_ret2
  exact ⟨_, by first | rfl | (simp [errW_none, errW_some] <;> rfl) | (simp [*, errW_none, errW_some] <;> rfl), by first | exact Kd.R_nil _ _ _ _ _ | exact Kd.N_nil _ _ _ _ _ | exact Kd.V_nil _ _ _ _ _ | exact Kd.Q_nil _ _ _ _ _ | exact Kd.S_nil _ _ _ _ _, by repeat (first | (with_reducible first | exact HB.out | apply ba_ | apply bn_ | apply b1_) | exact HB.out)⟩

def spec_DrawScaleTempos.f (k : Nat) (l0 : List Int) : Option ((List (S41)) × Int) := (newCur.f l0).bind fun bt236 => ((spec_l1Cur_anyTempos.f k bt236.1 bt236.2.1 bt236.2.2).bind fun bt240 => ((spec_l1Cur_among.f bt236.1 bt240.2.1 bt240.2.2 (([0, 401] : List Int))).bind fun bt248 => ((spec_l1Cur_among.f bt236.1 bt248.2.1 bt248.2.2 (([1, 50, 90, 100, 100, 150, 400, bt248.1] : List Int))).bind fun bt254 => (some (bt240.1, bt254.1)))))
theorem spec_DrawScaleTempos.mono : ∀ a0 k, LeO (spec_DrawScaleTempos.f k a0) (spec_DrawScaleTempos.f (k + 1) a0) := by
 intro a0 k
 unfold spec_DrawScaleTempos.f
 repeat' first
   | (with_reducible exact spec_l1Cur_anyTempos.mono _ _ _ _)
   | (with_reducible exact LeO.refl _)
   | (with_reducible exact LeO.none _)
   | (with_reducible refine LeO.ite ?_ ?_)
   | (with_reducible refine LeO.bind ?_ (fun _ => ?_))
   | exact spec_l1Cur_anyTempos.mono _ _ _ _
   | exact LeO.none _
   | refine LeO.ite ?_ ?_
   | refine LeO.bind ?_ (fun _ => ?_)
set_option maxHeartbeats 8000000 in
set_option maxRecDepth 100000 in
theorem spec_DrawScaleTempos.calls (k : Nat) (A0 : Option Addr) (c0 : Nat) (l0 : List Int) (r1 : List (S41)) (r2 : Int) (w : World) (hr0 : Kd.C (Kd.int .u8) w A0 l0.length l0) (hc0 : l0.length ≤ c0) (h : spec_DrawScaleTempos.f k l0 = some (r1, r2)) :
  Calls Try.prog 11 #[.slice A0 l0.length c0] w fun e w' => ∃ v0_ : Value, e = .returned (.tuple #[v0_, .int .i64 r2]) ∧ Kd.R k41 41 w' w.heap.size (fun _ => True) v0_ r1 ∧ Below w.heap.size w w' := by
 have HR0 := M_ hr0
 have HC0 := M_ hc0
 clear hr0 hc0
 have HB := M_ (Below.refl w.heap.size w)
 have H : ((newCur.f l0).bind fun bt236 => ((spec_l1Cur_anyTempos.f k bt236.1 bt236.2.1 bt236.2.2).bind fun bt240 => ((spec_l1Cur_among.f bt236.1 bt240.2.1 bt240.2.2 (([0, 401] : List Int))).bind fun bt248 => ((spec_l1Cur_among.f bt236.1 bt248.2.1 bt248.2.2 (([1, 50, 90, 100, 100, 150, 400, bt248.1] : List Int))).bind fun bt254 => (some (bt240.1, bt254.1)))))) = some (r1, r2) := h
 clear h
 replace H := Option.bind_eq_some_iff.mp H
 obtain ⟨⟨t236, t237, t238⟩, A20, H⟩ := H
 try dsimp only at H
 have A2 := M_ A20
 clear A20
 replace H := Option.bind_eq_some_iff.mp H
 obtain ⟨⟨t240, t243, t244⟩, A30, H⟩ := H
 try dsimp only at H
 have A3 := M_ A30
 clear A30
 obtain ⟨y245, hy245⟩ : ∃ y_ : List Int, y_ = (([0, 401] : List Int)) := ⟨_, rfl⟩
 replace H : ((spec_l1Cur_among.f t236 t243 t244 y245).bind fun bt248 => ((spec_l1Cur_among.f t236 bt248.2.1 bt248.2.2 (([1, 50, 90, 100, 100, 150, 400, bt248.1] : List Int))).bind fun bt254 => (some (t240, bt254.1)))) = some (r1, r2) := by first | (rw [hy245]; with_reducible exact H) | (have H2_ := (Option.bind_some _ _).symm.trans H; rw [hy245]; with_reducible exact H2_) | (have H2_ := (Option.bind_some _ _).symm.trans H; with_reducible exact H2_) | with_reducible exact H | (rw [hy245]; exact H) | exact H
 have Ny245 := M_ hy245
 clear hy245
 replace H := Option.bind_eq_some_iff.mp H
 obtain ⟨⟨t248, t249, t250⟩, A40, H⟩ := H
 try dsimp only at H
 have A4 := M_ A40
 clear A40
 obtain ⟨y251, hy251⟩ : ∃ y_ : List Int, y_ = (([1, 50, 90, 100, 100, 150, 400, t248] : List Int)) := ⟨_, rfl⟩
 replace H : ((spec_l1Cur_among.f t236 t249 t250 y251).bind fun bt254 => (some (t240, bt254.1))) = some (r1, r2) := by first | (rw [hy251]; with_reducible exact H) | (have H2_ := (Option.bind_some _ _).symm.trans H; rw [hy251]; with_reducible exact H2_) | (have H2_ := (Option.bind_some _ _).symm.trans H; with_reducible exact H2_) | with_reducible exact H | (rw [hy251]; exact H) | exact H
 have Ny251 := M_ hy251
 clear hy251
 replace H := Option.bind_eq_some_iff.mp H
 obtain ⟨⟨t254, t255, t256⟩, A50, H⟩ := H
 replace H : (some (t240, t254)) = some (r1, r2) := H
 have A5 := M_ A50
 clear A50
 simp only [Option.some.injEq, Prod.mk.injEq] at H
 obtain ⟨rfl, rfl⟩ := H
 go_enter Try.func11, Try.ntmps11
 go_wp2_with (first | ((with_reducible refine gate_dst (N := 7) rfl ?_); refine box_event ?hg (N := 7) ?hd (cs := #[.slice A0 l0.length c0, .int .i64 0, .int .u64 0]) (t := 86) ?hr ?_; (case hd => rfl); (case hg => rfl); (case hr => first | (go_simp; done) | (go_simp; rfl)); intro g239 hg w6 hbox hb2; have hb := bS_ hb2; have hi := newCur_is A2.out (by exact HR0.out) hbox (by rw [hg]; exact bZ_); clear hg hbox; have n0_ := M_ (hb); have n1_ := M_ (hi); clear HB; have HB := n0_; have HI239 := n1_; clear n0_ n1_; (try clear hb); (try clear hb2); (try clear hk); (try clear hi)) | ((with_reducible refine gate_callee (f := 67) rfl ?_); refine gL_ (some 9) rfl rfl Try.func67 (by kernel_rfl) rfl #[.pointer (some ⟨g239, 0, none⟩)] rfl ?_; (with_reducible refine (spec_l1Cur_anyTempos.calls k g239 t236 t237 t238 t240 t243 t244 w _ ?side1 ?side2 A3.out).mono ?_); (case side1 => repeat (first | (with_reducible first | exact HI239.out | apply IsS86.alloc | apply IsS86.drewN | apply IsS86.drew | apply IsS86.set_1 | apply IsS86.set_2) | exact HI239.out)); (case side2 => repeat (first | (with_reducible first | exact HB.out | apply ba_ | apply bn_ | apply b1_ | refine bs_ ?_ (IsS86.ge HI239.out)) | exact HB.out)); rintro e w7 ⟨v241, rfl, ho0, hi, hb, hk⟩; refine ⟨_, rfl, ?_⟩; have n0_ := M_ (Kd.R_lower ho0 (below_size (by repeat (first | (with_reducible first | exact HB.out | apply ba_ | apply bn_ | apply b1_ | refine bs_ ?_ (IsS86.ge HI239.out)) | exact HB.out)))); have n1_ := M_ (hb); have n2_ := M_ (hi); clear HB; clear HI239; have HO242 := n0_; have HB := n1_; have HI239 := n2_; clear n0_ n1_ n2_; (try clear hb); (try clear hb2); (try clear hk); (try clear hi); (try clear ho0)) | ((with_reducible refine gate_dst (N := 12) rfl ?_); refine Kd.R_lit (Kd.int .i64) _ 3 ?hg (N := 12) ?hd (xs := ([0, 401] : List Int)) (inner := [.int .i64 0, .int .i64 401]) (ok := fun _ => True) (okp := fun _ => True) ?hr ?hp (fun _ hk => hk) trivial (Below.refl _ _) (Nat.le_refl _) (by simp) ?_; (case hd => rfl); (case hg => rfl); (case hr => first | (go_simp; done) | (go_simp; rfl)); (case hp => exact (Reps.one (show Kd.M (Kd.int .i64) _ _ _ 0 [.int .i64 0] from rfl) (Reps.one (show Kd.M (Kd.int .i64) _ _ _ 401 [.int .i64 401] from rfl) (Reps.none _ _)))); intro v246 w8 ho9 hb hg_ hnew_; clear hg_ hnew_; (first | rw [← Ny245.out] at ho9 | (simp only [Int.reduceToNat] at ho9; rw [← Ny245.out] at ho9)); have n0_ := M_ (rb_ (rU_ HO242.out) hb); have n1_ := M_ (Kd.R_lower ho9 (below_size (by repeat (first | (with_reducible first | exact HB.out | apply ba_ | apply bn_ | apply b1_ | refine bs_ ?_ (IsS86.ge HI239.out)) | exact HB.out)))); have n2_ := M_ (IsS86.below (by repeat (first | (with_reducible first | exact HI239.out | apply IsS86.alloc | apply IsS86.drewN | apply IsS86.drew | apply IsS86.set_1 | apply IsS86.set_2) | exact HI239.out)) hb); have n3_ := M_ (below_step (by repeat (first | (with_reducible first | exact HB.out | apply ba_ | apply bn_ | apply b1_ | refine bs_ ?_ (IsS86.ge HI239.out)) | exact HB.out)) hb); clear HO242; clear HI239; clear HB; have HO242 := n0_; have HO247 := n1_; have HI239 := n2_; have HB := n3_; clear n0_ n1_ n2_ n3_; clear hb ho9; obtain ⟨Ao10, co10, eo10⟩ := Kd.R_slice HO247.out; subst eo10) | ((with_reducible refine gate_callee (f := 68) rfl ?_); refine gL_ (some 13) rfl rfl Try.func68 (by kernel_rfl) rfl #[.pointer (some ⟨g239, 0, none⟩), .slice Ao10 y245.length co10] rfl ?_; (with_reducible refine (spec_l1Cur_among.calls g239 t236 t243 t244 _ _ y245 t248 t249 t250 w _ ?side1 ?side2 ?side3 ?side4 ?side5 A4.out).mono ?_); (case side1 => repeat (first | (with_reducible first | exact HI239.out | apply IsS86.alloc | apply IsS86.drewN | apply IsS86.drew | apply IsS86.set_1 | apply IsS86.set_2) | exact HI239.out)); (case side2 => repeat (first | (with_reducible first | exact HB.out | apply ba_ | apply bn_ | apply b1_ | refine bs_ ?_ (IsS86.ge HI239.out)) | exact HB.out)); (case side3 => exact cU_ (Kd.R_reads' HO247.out).2.2); (case side4 => exact (Kd.R_reads' HO247.out).2.1); (case side5 => exact far_slice (IsS86.own_ne HI239.out HO247.out (by decide))); rintro e w11 ⟨rfl, hi, hb, hk⟩; refine ⟨_, rfl, ?_⟩; have n0_ := M_ (rm_ (Kd.R_keep (IsS86.apart (show IsS86 w _ g239 t236 t243 t244 from by repeat (first | (with_reducible first | exact HI239.out | apply IsS86.alloc | apply IsS86.drewN | apply IsS86.drew | apply IsS86.set_1 | apply IsS86.set_2) | exact HI239.out)) (rU_ HO242.out) (by decide)) hk (fun _ h => h.2)) (fun _ h => h.1)); have n1_ := M_ (rm_ (Kd.R_keep (IsS86.apart (show IsS86 w _ g239 t236 t243 t244 from by repeat (first | (with_reducible first | exact HI239.out | apply IsS86.alloc | apply IsS86.drewN | apply IsS86.drew | apply IsS86.set_1 | apply IsS86.set_2) | exact HI239.out)) (rU_ HO247.out) (by decide)) hk (fun _ h => h.2)) (fun _ h => h.1)); have n2_ := M_ (hb); have n3_ := M_ (hi); clear HO242; clear HO247; clear HB; clear HI239; have HO242 := n0_; have HO247 := n1_; have HB := n2_; have HI239 := n3_; clear n0_ n1_ n2_ n3_; (try clear hb); (try clear hb2); (try clear hk); (try clear hi)) | ((with_reducible refine gate_dst (N := 14) rfl ?_); refine Kd.R_lit (Kd.int .i64) _ 3 ?hg (N := 14) ?hd (xs := ([1, 50, 90, 100, 100, 150, 400, t248] : List Int)) (inner := [.int .i64 1, .int .i64 50, .int .i64 90, .int .i64 100, .int .i64 100, .int .i64 150, .int .i64 400, .int .i64 t248]) (ok := fun _ => True) (okp := fun _ => True) ?hr ?hp (fun _ hk => hk) trivial (Below.refl _ _) (Nat.le_refl _) (by simp) ?_; (case hd => rfl); (case hg => rfl); (case hr => first | (go_simp; done) | (go_simp; rfl)); (case hp => exact (Reps.one (show Kd.M (Kd.int .i64) _ _ _ 1 [.int .i64 1] from rfl) (Reps.one (show Kd.M (Kd.int .i64) _ _ _ 50 [.int .i64 50] from rfl) (Reps.one (show Kd.M (Kd.int .i64) _ _ _ 90 [.int .i64 90] from rfl) (Reps.one (show Kd.M (Kd.int .i64) _ _ _ 100 [.int .i64 100] from rfl) (Reps.one (show Kd.M (Kd.int .i64) _ _ _ 100 [.int .i64 100] from rfl) (Reps.one (show Kd.M (Kd.int .i64) _ _ _ 150 [.int .i64 150] from rfl) (Reps.one (show Kd.M (Kd.int .i64) _ _ _ 400 [.int .i64 400] from rfl) (Reps.one (show Kd.M (Kd.int .i64) _ _ _ t248 [.int .i64 t248] from rfl) (Reps.none _ _)))))))))); intro v252 w12 ho13 hb hg_ hnew_; clear hg_ hnew_; (first | rw [← Ny251.out] at ho13 | (simp only [Int.reduceToNat] at ho13; rw [← Ny251.out] at ho13)); have n0_ := M_ (rb_ (rU_ HO242.out) hb); have n1_ := M_ (Kd.R_elder' (rU_ HO247.out) (Kd.R_base ho13) hb); have n2_ := M_ (Kd.R_lower (Kd.R_new' ho13 (Kd.R_lt (rU_ HO247.out))) (below_size (by repeat (first | (with_reducible first | exact HB.out | apply ba_ | apply bn_ | apply b1_ | refine bs_ ?_ (IsS86.ge HI239.out)) | exact HB.out)))); have n3_ := M_ (IsS86.below (by repeat (first | (with_reducible first | exact HI239.out | apply IsS86.alloc | apply IsS86.drewN | apply IsS86.drew | apply IsS86.set_1 | apply IsS86.set_2) | exact HI239.out)) hb); have n4_ := M_ (below_step (by repeat (first | (with_reducible first | exact HB.out | apply ba_ | apply bn_ | apply b1_ | refine bs_ ?_ (IsS86.ge HI239.out)) | exact HB.out)) hb); clear HO242; clear HO247; clear HI239; clear HB; have HO242 := n0_; have HO247 := n1_; have HO253 := n2_; have HI239 := n3_; have HB := n4_; clear n0_ n1_ n2_ n3_ n4_; clear hb ho13; obtain ⟨Ao14, co14, eo14⟩ := Kd.R_slice HO253.out; subst eo14) | ((with_reducible refine gate_callee (f := 68) rfl ?_); refine gL_ (some 15) rfl rfl Try.func68 (by kernel_rfl) rfl #[.pointer (some ⟨g239, 0, none⟩), .slice Ao14 y251.length co14] rfl ?_; (with_reducible refine (spec_l1Cur_among.calls g239 t236 t249 t250 _ _ y251 t254 t255 t256 w _ ?side1 ?side2 ?side3 ?side4 ?side5 A5.out).mono ?_); (case side1 => repeat (first | (with_reducible first | exact HI239.out | apply IsS86.alloc | apply IsS86.drewN | apply IsS86.drew | apply IsS86.set_1 | apply IsS86.set_2) | exact HI239.out)); (case side2 => repeat (first | (with_reducible first | exact HB.out | apply ba_ | apply bn_ | apply b1_ | refine bs_ ?_ (IsS86.ge HI239.out)) | exact HB.out)); (case side3 => exact cU_ (Kd.R_reads' HO253.out).2.2); (case side4 => exact (Kd.R_reads' HO253.out).2.1); (case side5 => exact far_slice (IsS86.own_ne HI239.out HO253.out (by decide))); rintro e w15 ⟨rfl, hi, hb, hk⟩; refine ⟨_, rfl, ?_⟩; have n0_ := M_ (rm_ (Kd.R_keep (IsS86.apart (show IsS86 w _ g239 t236 t249 t250 from by repeat (first | (with_reducible first | exact HI239.out | apply IsS86.alloc | apply IsS86.drewN | apply IsS86.drew | apply IsS86.set_1 | apply IsS86.set_2) | exact HI239.out)) (rU_ HO242.out) (by decide)) hk (fun _ h => h.2)) (fun _ h => h.1)); have n1_ := M_ (rm_ (Kd.R_keep (IsS86.apart (show IsS86 w _ g239 t236 t249 t250 from by repeat (first | (with_reducible first | exact HI239.out | apply IsS86.alloc | apply IsS86.drewN | apply IsS86.drew | apply IsS86.set_1 | apply IsS86.set_2) | exact HI239.out)) (rU_ HO247.out) (by decide)) hk (fun _ h => h.2)) (fun _ h => h.1)); have n2_ := M_ (rm_ (Kd.R_keep (IsS86.apart (show IsS86 w _ g239 t236 t249 t250 from by repeat (first | (with_reducible first | exact HI239.out | apply IsS86.alloc | apply IsS86.drewN | apply IsS86.drew | apply IsS86.set_1 | apply IsS86.set_2) | exact HI239.out)) (rU_ HO253.out) (by decide)) hk (fun _ h => h.2)) (fun _ h => h.1)); have n3_ := M_ (hb); have n4_ := M_ (hi); clear HO242; clear HO247; clear HO253; clear HB; clear HI239; have HO242 := n0_; have HO247 := n1_; have HO253 := n2_; have HB := n3_; have HI239 := n4_; clear n0_ n1_ n2_ n3_ n4_; (try clear hb); (try clear hb2); (try clear hk); (try clear hi)))
 go_ret2
 exact ⟨_, by first | rfl | (simp [errW_none, errW_some] <;> rfl) | (simp [*, errW_none, errW_some] <;> rfl), by (with_reducible repeat (first | apply ra_ | apply rn_ | apply rd_)); exact HO242.out, by repeat (first | (with_reducible first | exact HB.out | apply ba_ | apply bn_ | apply b1_ | refine bs_ ?_ (IsS86.ge HI239.out)) | exact HB.out)⟩

def clone_Change.f (l0 : List (S41)) : Option ((List (S41))) := (some (([] : List (S41)) : List (S41))).bind fun y257 => (if y257.length + l0.length < 8796093022208 then (some (y257 ++ l0)) else (none))
set_option maxHeartbeats 8000000 in
set_option maxRecDepth 100000 in
theorem clone_Change.calls (A0 : Option Addr) (c0 : Nat) (l0 : List (S41)) (r : List (S41)) (w : World) (hr0 : Kd.C k41 w A0 l0.length l0) (hc0 : l0.length ≤ c0) (h : clone_Change.f l0 = some r) :
  Calls Try.prog 69 #[.slice A0 l0.length c0] w fun e w' => ∃ v0_ : Value, e = .returned (v0_) ∧ Kd.R k41 41 w' w.heap.size (fun _ => True) v0_ r ∧ Below w.heap.size w w' := by
 have HR0 := M_ hr0
 have HC0 := M_ hc0
 clear hr0 hc0
 have HB := M_ (Below.refl w.heap.size w)
 have H : ((some (([] : List (S41)) : List (S41))).bind fun y257 => (if y257.length + l0.length < 8796093022208 then (some (y257 ++ l0)) else (none))) = some r := h
 clear h
 obtain ⟨y257, hy257⟩ : ∃ y_ : List (S41), y_ = (([] : List (S41))) := ⟨_, rfl⟩
 replace H : (if y257.length + l0.length < 8796093022208 then (some (y257 ++ l0)) else (none)) = some r := by first | (rw [hy257]; with_reducible exact H) | (have H2_ := (Option.bind_some _ _).symm.trans H; rw [hy257]; with_reducible exact H2_) | (have H2_ := (Option.bind_some _ _).symm.trans H; with_reducible exact H2_) | with_reducible exact H | (rw [hy257]; exact H) | exact H
 have Ny257 := M_ hy257
 clear hy257
 by_cases c2 : y257.length + l0.length < 8796093022208
 ·rw [if_pos c2] at H
  have LMc2 := M_ c2
  clear c2
  obtain ⟨y260, hy260⟩ : ∃ y_ : List (S41), y_ = (y257 ++ l0) := ⟨_, rfl⟩
  replace H : (some y260) = some r := by first | (rw [hy260]; with_reducible exact H) | (have H2_ := (Option.bind_some _ _).symm.trans H; rw [hy260]; with_reducible exact H2_) | (have H2_ := (Option.bind_some _ _).symm.trans H; with_reducible exact H2_) | with_reducible exact H | (rw [hy260]; exact H) | exact H
  have Ny260 := M_ hy260
  clear hy260
  obtain rfl := Option.some.inj H
  have he : ∀ W : World, (binOp .eql 23 (.slice A0 l0.length c0) (.slice none 0 0)).run Try.prog W = .ok (.bool A0.isNone) W := fun W => Lib.run_eql_slice_nil W 23 41 A0 l0.length c0 0 0 Try.underlying23
  cases A0 with
  | none =>
   have hz : l0 = [] := by
    rcases Nat.eq_zero_or_pos l0.length with h0 | h0
    ·exact List.eq_nil_of_length_eq_zero h0
    ·obtain ⟨ad, e, _⟩ := HR0.out.2.2 h0
     cases e
   have hq : y260 = [] := by rw [Ny260.out, Ny257.out, hz]; rfl
   have HQ := M_ hq
   clear hq hz Ny260 Ny257 LMc2
   go_enter Try.func69, Try.ntmps69
   go_wp2
   go_ret
   exact ⟨_, rfl, by rw [HQ.out]; exact Kd.R_nil _ _ _ _ _, by repeat (first | (with_reducible first | exact HB.out | apply ba_ | apply bn_ | apply b1_) | exact HB.out)⟩
  | some a0 =>
   go_enter Try.func69, Try.ntmps69
   go_wp2_with (first | ((with_reducible refine gate_dst (N := 5) rfl ?_); refine Kd.R_lit k41 _ 41 ?hg (N := 5) ?hd (xs := ([] : List (S41))) (inner := []) (ok := fun _ => True) (okp := fun _ => True) ?hr ?hp (fun _ hk => hk) trivial (Below.refl _ _) (Nat.le_refl _) (by simp) ?_; (case hd => rfl); (case hg => rfl); (case hr => first | (go_simp; done) | (go_simp; rfl)); (case hp => exact (Reps.none _ _)); intro v258 w3 ho4 hb hg_ hnew_; clear hg_ hnew_; (first | rw [← Ny257.out] at ho4 | (simp only [Int.reduceToNat] at ho4; rw [← Ny257.out] at ho4)); have n0_ := M_ (Kd.R_lower ho4 bZ_); have n1_ := M_ (bS_ hb); clear HB; have HO259 := n0_; have HB := n1_; clear n0_ n1_; clear hb ho4) | ((with_reducible refine gate_builtin (b := .append) (xs := #[.tmp 5, .tmp 6]) rfl ?_); at_builtin; refine Kd.R_append_rows k41 (w0 := w) w.heap.size rfl (.tmp 5) (.tmp 6) 23 41 (.agg #[(.int .i64 0), (.int .i64 0)]) 16 rfl Try.underlying23 info41 rfl (by decide) (by omega) v258 y257 l0 _ _ _ (fun _ => True) (fun _ => False) rfl rfl ?aO ?aR (fun _ _ h => h) (fun _ h => h.elim) ?aF ?aB ?aS ?aL ?_; (case aR => exact cU_ (Kd.C_below HR0.out HB.out)); (case aB => exact (by repeat (first | (with_reducible first | exact HB.out | apply ba_ | apply bn_ | apply b1_) | exact HB.out))); (case aF => exact (fun _ _ => trivial)); (case aO => exact (rU_ HO259.out)); (case aS => exact bZ_); (case aL => have := LMc2.out; omega); intro v261 w5 ho hb hg hat; rw [← Ny260.out] at ho; have n0_ := M_ (hb); have n1_ := M_ (ho); clear HB; clear HO259; have HB := n0_; have HO262 := n1_; clear n0_ n1_; clear ho hb hg hat))
   go_ret
   exact ⟨_, by first | rfl | (simp [errW_none, errW_some] <;> rfl) | (simp [*, errW_none, errW_some] <;> rfl), by (with_reducible repeat (first | apply ra_ | apply rn_ | apply rd_)); exact HO262.out, by repeat (first | (with_reducible first | exact HB.out | apply ba_ | apply bn_ | apply b1_) | exact HB.out)⟩
 ·rw [if_neg c2] at H
  exact absurd H (by simp)

mutual
def impl_ScaleTempos.j0 : Nat → List (S41) → Int → Bool → Option ((List (S41)) × Bool)
 | 0, _, _, _ => none
 | k + 1, x0, x1, x18 => if x18 = true then (some (([] : List (S41)), false)) else ((clone_Change.f x0).bind fun t264 => (impl_ScaleTempos.l0 k x1 t264 (t264.length : Int) 0))
def impl_ScaleTempos.l0 : Nat → Int → List (S41) → Int → Int → Option ((List (S41)) × Bool)
 | 0, _, _, _, _ => none
 | k + 1, x1, x6, x22, x23 => if x23 < x22 then (if 0 ≤ x23 then (if x23 < (x6.length : Int) then (impl_ScaleTempos.l0 k x1 (x6.set (x23 : Int).toNat (⟨(rd_T41 x6 x23).f0, wrap64 (Int.tdiv (wrap64 ((wrap64 (((rd_T41 x6 x23).f1) * x1)) + 50)) 100)⟩ : S41)) x22 (wrap64 (x23 + 1))) else (none)) else (none)) else ((impl_AreTempos.f k x6).bind fun t269 => (if t269 = true then (some (x6, true)) else (some (([] : List (S41)), false))))
end
def impl_ScaleTempos.f (k : Nat) (l0 : List (S41)) (a1 : Int) : Option ((List (S41)) × Bool) := (impl_AreTempos.f k l0).bind fun t263 => (if t263 = true then (if a1 < 1 then (impl_ScaleTempos.j0 k l0 a1 true) else (impl_ScaleTempos.j0 k l0 a1 (decide (a1 > 400)))) else (impl_ScaleTempos.j0 k l0 a1 true))
theorem impl_ScaleTempos.mono_l : ∀ k, (∀ y0 y1 y2, LeO (impl_ScaleTempos.j0 k y0 y1 y2) (impl_ScaleTempos.j0 (k + 1) y0 y1 y2)) ∧ (∀ y0 y1 y2 y3, LeO (impl_ScaleTempos.l0 k y0 y1 y2 y3) (impl_ScaleTempos.l0 (k + 1) y0 y1 y2 y3))
 | 0 => ⟨fun _ _ _ r h => by simp [impl_ScaleTempos.j0] at h, fun _ _ _ _ r h => by simp [impl_ScaleTempos.l0] at h⟩
 | k + 1 => by
  obtain ⟨ih0, ih1⟩ := impl_ScaleTempos.mono_l k
  refine ⟨?_, ?_⟩
  ·intro y0 y1 y2
   unfold impl_ScaleTempos.j0
   repeat' first
   | (with_reducible exact ih0 _ _ _)
   | (with_reducible exact ih1 _ _ _ _)
   | (with_reducible exact impl_AreTempos.mono _ _)
   | (with_reducible exact LeO.refl _)
   | (with_reducible exact LeO.none _)
   | (with_reducible refine LeO.ite ?_ ?_)
   | (with_reducible refine LeO.bind ?_ (fun _ => ?_))
   | exact ih0 _ _ _
   | exact ih1 _ _ _ _
   | exact impl_AreTempos.mono _ _
   | exact LeO.none _
   | refine LeO.ite ?_ ?_
   | refine LeO.bind ?_ (fun _ => ?_)
  ·intro y0 y1 y2 y3
   unfold impl_ScaleTempos.l0
   repeat' first
   | (with_reducible exact ih0 _ _ _)
   | (with_reducible exact ih1 _ _ _ _)
   | (with_reducible exact impl_AreTempos.mono _ _)
   | (with_reducible exact LeO.refl _)
   | (with_reducible exact LeO.none _)
   | (with_reducible refine LeO.ite ?_ ?_)
   | (with_reducible refine LeO.bind ?_ (fun _ => ?_))
   | exact ih0 _ _ _
   | exact ih1 _ _ _ _
   | exact impl_AreTempos.mono _ _
   | exact LeO.none _
   | refine LeO.ite ?_ ?_
   | refine LeO.bind ?_ (fun _ => ?_)
theorem impl_ScaleTempos.mono : ∀ a0 a1 k, LeO (impl_ScaleTempos.f k a0 a1) (impl_ScaleTempos.f (k + 1) a0 a1) := by
 intro a0 a1 k
 obtain ⟨ih0, ih1⟩ := impl_ScaleTempos.mono_l k
 unfold impl_ScaleTempos.f
 repeat' first
   | (with_reducible exact ih0 _ _ _)
   | (with_reducible exact ih1 _ _ _ _)
   | (with_reducible exact impl_AreTempos.mono _ _)
   | (with_reducible exact LeO.refl _)
   | (with_reducible exact LeO.none _)
   | (with_reducible refine LeO.ite ?_ ?_)
   | (with_reducible refine LeO.bind ?_ (fun _ => ?_))
   | exact ih0 _ _ _
   | exact ih1 _ _ _ _
   | exact impl_AreTempos.mono _ _
   | exact LeO.none _
   | refine LeO.ite ?_ ?_
   | refine LeO.bind ?_ (fun _ => ?_)
set_option maxHeartbeats 8000000 in
set_option maxRecDepth 100000 in
theorem impl_ScaleTempos.calls (k : Nat) (A0 : Option Addr) (c0 : Nat) (l0 : List (S41)) (a1 : Int) (r1 : List (S41)) (r2 : Bool) (w : World) (hr0 : Kd.C k41 w A0 l0.length l0) (hc0 : l0.length ≤ c0) (h : impl_ScaleTempos.f k l0 a1 = some (r1, r2)) :
  Calls Try.prog 12 #[.slice A0 l0.length c0, .int .i64 a1] w fun e w' => ∃ v0_ : Value, e = .returned (.tuple #[v0_, .bool r2]) ∧ Kd.R k41 41 w' w.heap.size (fun _ => True) v0_ r1 ∧ Below w.heap.size w w' := by
 have HR0 := M_ hr0
 have HC0 := M_ hc0
 clear hr0 hc0
 have HB := M_ (Below.refl w.heap.size w)
 have H : ((impl_AreTempos.f k l0).bind fun t263 => (if t263 = true then (if a1 < 1 then (impl_ScaleTempos.j0 k l0 a1 true) else (impl_ScaleTempos.j0 k l0 a1 (decide (a1 > 400)))) else (impl_ScaleTempos.j0 k l0 a1 true))) = some (r1, r2) := h
 clear h
 have HC3 := M_ H
 clear H
 go_enter Try.func12, Try.ntmps12
 go_upto_region 1 with (fail)
 go_cut [18] (fun v18 wc => ∃ (kq : Nat) (x18_2 : Bool), v18 = .bool x18_2 ∧ Aside0 (impl_ScaleTempos.j0 kq l0 a1 x18_2 = some (r1, r2)) ∧ Aside0 (kq ≤ k) ∧ Aside0 (Below w.heap.size w wc))
 case first =>
  have H := HC3.out
  clear HC3
  replace H := Option.bind_eq_some_iff.mp H
  obtain ⟨t263, A40, H⟩ := H
  try dsimp only at H
  have A4 := M_ A40
  clear A40
  by_cases c5 : t263 = true
  ·subst c5
   have H1 : (if a1 < 1 then (impl_ScaleTempos.j0 k l0 a1 true) else (impl_ScaleTempos.j0 k l0 a1 (decide (a1 > 400)))) = some (r1, r2) := by rw [if_pos rfl] at H; exact H
   clear H
   have H := H1
   clear H1
   by_cases c6 : a1 < 1
   ·rw [if_pos c6] at H
    have c6b0 : decide (a1 < 1) = true := decide_eq_true c6
    clear c6
    (first | rw [c6b0] | (simp only [i64_w, i32_w]; rw [c6b0]) | skip)
    have H' := M_ H
    clear H
    go_wp2_with (first | ((with_reducible refine gate_callee (f := 27) rfl ?_); refine gL_ (some 9) rfl rfl Try.func27 (by kernel_rfl) rfl #[.slice A0 l0.length c0] rfl ?_; (with_reducible refine (impl_AreTempos.calls k _ _ l0 true _ ?side1 ?side2 A4.out).mono ?_); (case side1 => exact cU_ (Kd.C_below HR0.out HB.out)); (case side2 => exact HC0.out); rintro e w7 ⟨rfl, hb⟩; refine ⟨_, rfl, ?_⟩; have n0_ := M_ (bS_ hb); clear HB; have HB := n0_; clear n0_; (try clear hb); (try clear hb2); (try clear hk); (try clear hi)))
    go_meet
    case rel => exact ⟨_, (true), (by first | rfl | (simp; done) | (simp [*]; done)), H', ⟨by first | omega | exact Nat.le_refl _⟩, bA_⟩
   ·rw [if_neg c6] at H
    have c6b0 : decide (a1 < 1) = false := decide_eq_false c6
    clear c6
    (first | rw [c6b0] | (simp only [i64_w, i32_w]; rw [c6b0]) | skip)
    have H' := M_ H
    clear H
    go_wp2_with (first | ((with_reducible refine gate_callee (f := 27) rfl ?_); refine gL_ (some 9) rfl rfl Try.func27 (by kernel_rfl) rfl #[.slice A0 l0.length c0] rfl ?_; (with_reducible refine (impl_AreTempos.calls k _ _ l0 true _ ?side1 ?side2 A4.out).mono ?_); (case side1 => exact cU_ (Kd.C_below HR0.out HB.out)); (case side2 => exact HC0.out); rintro e w8 ⟨rfl, hb⟩; refine ⟨_, rfl, ?_⟩; have n0_ := M_ (bS_ hb); clear HB; have HB := n0_; clear n0_; (try clear hb); (try clear hb2); (try clear hk); (try clear hi)))
    go_meet
    case rel => exact ⟨_, (decide (a1 > 400)), (by first | rfl | (simp; done) | (simp [*]; done)), H', ⟨by first | omega | exact Nat.le_refl _⟩, bA_⟩
  ·replace c5 := Bool.eq_false_iff.mpr c5
   subst c5
   have H1 : (impl_ScaleTempos.j0 k l0 a1 true) = some (r1, r2) := by rw [if_neg (show ¬ (false = true) by decide)] at H; exact H
   clear H
   have H := H1
   clear H1
   have H' := M_ H
   clear H
   go_wp2_with (first | ((with_reducible refine gate_callee (f := 27) rfl ?_); refine gL_ (some 9) rfl rfl Try.func27 (by kernel_rfl) rfl #[.slice A0 l0.length c0] rfl ?_; (with_reducible refine (impl_AreTempos.calls k _ _ l0 false _ ?side1 ?side2 A4.out).mono ?_); (case side1 => exact cU_ (Kd.C_below HR0.out HB.out)); (case side2 => exact HC0.out); rintro e w9 ⟨rfl, hb⟩; refine ⟨_, rfl, ?_⟩; have n0_ := M_ (bS_ hb); clear HB; have HB := n0_; clear n0_; (try clear hb); (try clear hb2); (try clear hk); (try clear hi)))
   go_meet
   case rel => exact ⟨_, (true), (by first | rfl | (simp; done) | (simp [*]; done)), H', ⟨by first | omega | exact Nat.le_refl _⟩, bA_⟩
 case rest =>
  clear HC3
  try clear c1
  try clear c2
  try clear p2
  try clear c5
  try clear c6
  try clear c6b0
  obtain ⟨kq, x18_2, rfl, HA, HJ2, HB⟩ := hcut
  cases kq with
  | zero => exact absurd HA.out (by simp [impl_ScaleTempos.j0])
  | succ kj2 =>
   have H := HA.out
   clear HA
   simp only [impl_ScaleTempos.j0] at H
   by_cases c10 : x18_2 = true
   ·subst c10
    have H1 : (some (([] : List (S41)), false)) = some (r1, r2) := by rw [if_pos rfl] at H; exact H
    clear H
    have H := H1
    clear H1
    simp only [Option.some.injEq, Prod.mk.injEq] at H
    obtain ⟨rfl, rfl⟩ := H
    go_wp2
    go_ret2
    exact ⟨_, by first | rfl | (simp [errW_none, errW_some] <;> rfl) | (simp [*, errW_none, errW_some] <;> rfl), by first | exact Kd.R_nil _ _ _ _ _ | exact Kd.N_nil _ _ _ _ _ | exact Kd.V_nil _ _ _ _ _ | exact Kd.Q_nil _ _ _ _ _ | exact Kd.S_nil _ _ _ _ _, by repeat (first | (with_reducible first | exact HB.out | apply ba_ | apply bn_ | apply b1_) | exact HB.out)⟩
   ·replace c10 := Bool.eq_false_iff.mpr c10
    subst c10
    have H1 : ((clone_Change.f l0).bind fun t264 => (impl_ScaleTempos.l0 kj2 a1 t264 (t264.length : Int) 0)) = some (r1, r2) := by rw [if_neg (show ¬ (false = true) by decide)] at H; exact H
    clear H
    have H := H1
    clear H1
    replace H := Option.bind_eq_some_iff.mp H
    obtain ⟨t264, A110, H⟩ := H
    try dsimp only at H
    have A11 := M_ A110
    clear A110
    have H' := M_ H
    clear H
    go_wp2_with (first | ((with_reducible refine gate_callee (f := 69) rfl ?_); refine gL_ (some 20) rfl rfl Try.func69 (by kernel_rfl) rfl #[.slice A0 l0.length c0] rfl ?_; (with_reducible refine (clone_Change.calls _ _ l0 t264 _ ?side1 ?side2 A11.out).mono ?_); (case side1 => exact cU_ (Kd.C_below HR0.out HB.out)); (case side2 => exact HC0.out); rintro e w12 ⟨v265, rfl, ho0, hb⟩; refine ⟨_, rfl, ?_⟩; have n0_ := M_ (Kd.R_lower ho0 bZ_); have n1_ := M_ (bS_ hb); clear HB; have HO266 := n0_; have HB := n1_; clear n0_ n1_; (try clear hb); (try clear hb2); (try clear hk); (try clear hi); (try clear ho0); obtain ⟨Ao13, co13, eo13⟩ := Kd.R_slice HO266.out; subst eo13))
    go_loopg [23] kj2 (fun kq v23 w' => ∃ (x6_2 : List (S41)) (x23_2 : Int), v23 = .int .i64 x23_2 ∧ Aside0 (impl_ScaleTempos.l0 kq a1 x6_2 (t264.length : Int) x23_2 = some (r1, r2)) ∧ Aside0 (kq ≤ kj2) ∧ Aside0 (Kd.R k41 41 w' w.heap.size (fun _ => True) (.slice Ao13 t264.length co13) x6_2) ∧ Aside0 (Below w.heap.size w w'))
    case atStart => exact ⟨(t264), (0), (by first | rfl | (simp; done) | (simp [*]; done)), H', ⟨Nat.le_refl _⟩, ⟨by (with_reducible repeat (first | apply ra_ | apply rn_ | apply rd_)); exact HO266.out⟩, bA_⟩
    case round =>
     clear H'
     try clear c1
     try clear c2
     try clear p2
     try clear c5
     try clear c6
     try clear c6b0
     try clear c10
     try clear c12
     try clear p2
     obtain ⟨x6_2, x23_2, rfl, HA, HK2, HO_6, HB⟩ := hrel
     have hl6_2 := (Kd.R_reads' HO_6.out).1
     rw [hl6_2] at HO_6
     (try simp only [hl6_2])
     cases gk with
     | zero => exact absurd HA.out (by simp [impl_ScaleTempos.l0])
     | succ k2 =>
      have H := HA.out
      clear HA
      simp only [impl_ScaleTempos.l0] at H
      by_cases c14 : x23_2 < (t264.length : Int)
      ·rw [if_pos c14] at H
       have c14b0 : decide (x23_2 < (t264.length : Int)) = true := decide_eq_true c14
       clear c14
       by_cases c15 : 0 ≤ x23_2
       ·rw [if_pos c15] at H
        have c15b0 : decide (0 ≤ x23_2) = true := decide_eq_true c15
        clear c15
        by_cases c16 : x23_2 < (x6_2.length : Int)
        ·rw [if_pos c16] at H
         have c16b0 : decide (x23_2 < (x6_2.length : Int)) = true := decide_eq_true c16
         clear c16
         obtain ⟨y268, hy268⟩ : ∃ y_ : List (S41), y_ = (x6_2.set (x23_2 : Int).toNat (⟨(rd_T41 x6_2 x23_2).f0, wrap64 (Int.tdiv (wrap64 ((wrap64 (((rd_T41 x6_2 x23_2).f1) * a1)) + 50)) 100)⟩ : S41)) := ⟨_, rfl⟩
         replace H : (impl_ScaleTempos.l0 k2 a1 y268 (t264.length : Int) (wrap64 (x23_2 + 1))) = some (r1, r2) := by first | (rw [hy268]; with_reducible exact H) | (have H2_ := (Option.bind_some _ _).symm.trans H; rw [hy268]; with_reducible exact H2_) | (have H2_ := (Option.bind_some _ _).symm.trans H; with_reducible exact H2_) | with_reducible exact H | (rw [hy268]; exact H) | exact H
         have Ny268 := M_ hy268
         clear hy268
         have H' := M_ H
         clear H
         have p267 : 0 ≤ (x23_2 : Int) := dT_
         have q267 : x23_2 < (x6_2.length : Int) := dT_
         obtain ⟨ad267, e267, hx267_0, hx267_1⟩ := at_T41 (Kd.R_reads' HO_6.out).2.2 x23_2 p267 q267
         cases e267
         replace p267 := eq_true p267
         replace q267 := eq_true q267
         have p17 : 0 ≤ (x23_2 : Int) := dT_
         have q17 : (x23_2 : Int) < ((x6_2.length : Int) : Int) := dT_
         obtain ⟨go17, co17, eo17, gb17, gl17, cl17, HG17⟩ := Kd.R_form HO_6.out (by omega)
         (first | cases eo17 | (injection eo17 with ea_ en_ ec_; (first | subst ea_ | (injection ea_ with ea_; subst ea_)); subst ec_; clear en_))
         have GB17 := M_ gb17
         have GG17 := M_ HG17
         clear gb17 gl17 HG17
         (first | simp only [add_plain] at hx267_0 | skip)
         (first | simp only [add_plain] at hx267_1 | skip)
         obtain ⟨ce17, hcl17, hM17, hcc17, hfr17⟩ := Kd.R_elem HO_6.out z41 (x23_2 : Int) p17 q17
         obtain rfl := k41_openM hM17
         have hx17_0 : wr.cell? ⟨go17, (x23_2 : Int).toNat * 2, none⟩ = some (.int .i64 ((rd_T41 x6_2 x23_2).f0)) := hcc17 0 _ rfl
         have hx17_1 : wr.cell? ⟨go17, (x23_2 : Int).toNat * 2 + 1, none⟩ = some (.int .i64 ((rd_T41 x6_2 x23_2).f1)) := hcc17 1 _ rfl
         have hf17_0 : wr.frozen? ⟨go17, (x23_2 : Int).toNat * 2, none⟩ = false := hfr17 0
         have hf17_1 : wr.frozen? ⟨go17, (x23_2 : Int).toNat * 2 + 1, none⟩ = false := hfr17 1
         clear hcl17 hcc17 hfr17 hM17
         replace p17 := eq_true p17
         replace q17 := eq_true q17
         have HX18 := M_ (show Kd.R k41 41 wr w.heap.size (fun _ => True) (.slice (some ⟨go17, 0, none⟩) x6_2.length co13) x6_2 from (rU_ HO_6.out))
         obtain ⟨ce18, hcl18, hM18, hcc18, hfr18⟩ := Kd.R_elem HX18.out z41 (x23_2 : Int) (dT_) (by have h_ : (x23_2 : Int) < ((x6_2.length : Int) : Int) := dT_; first | exact h_ | (have e_ := (Kd.R_reads' HO_6.out).1; omega) | simpa using h_)
         obtain rfl := k41_openM hM18
         have HP18 := Kd.R_seg HX18.out (x23_2 : Int) (dT_) (by have h_ : (x23_2 : Int) < ((x6_2.length : Int) : Int) := dT_; first | exact h_ | (have e_ := (Kd.R_reads' HO_6.out).1; omega) | simpa using h_) (seg := [.int .i64 (wrap64 (Int.tdiv (wrap64 ((wrap64 (((rd_T41 x6_2 x23_2).f1) * a1)) + 50)) 100))]) (j := 1) hcl18 hcc18 (show 2 ≤ 2 from by decide) (x' := (⟨(rd_T41 x6_2 x23_2).f0, wrap64 (Int.tdiv (wrap64 ((wrap64 (((rd_T41 x6_2 x23_2).f1) * a1)) + 50)) 100)⟩ : S41)) (k41_mkM _ _ _ (⟨(rd_T41 x6_2 x23_2).f0, wrap64 (Int.tdiv (wrap64 ((wrap64 (((rd_T41 x6_2 x23_2).f1) * a1)) + 50)) 100)⟩ : S41) ) (fun _ hk => hk)
         have hx18_1 := hcc18 1 _ rfl
         (try simp only [show (k41).sz = 2 from rfl, Nat.mul_one, Nat.add_zero] at hx18_1)
         have hf18_1 := hfr18 1
         (try simp only [show (k41).sz = 2 from rfl, Nat.mul_one, Nat.add_zero] at hf18_1)
         clear hcl18 hcc18 hfr18 hM18
         go_wp2_with (first | ((with_reducible refine gate_store (t := 3) (p := 38) rfl ?_); refine store_event (t := 3) (p := 38) (v := ?vo_w19) (w1 := (wr.setCell ⟨go17, (x23_2 : Int).toNat * 2 + 1, none⟩ (.int .i64 (wrap64 (Int.tdiv (wrap64 ((wrap64 (((rd_T41 x6_2 x23_2).f1) * a1)) + 50)) 100))))) ?hg ?ho ?hn ?hr ?_; (case ho => rfl); (case hg => rfl); (case hn => rfl); (case hr => first | (go_simp; done) | (go_simp; rfl)); intro w19 hw; have hg : wr.grownBy w19 (some go17) := (by rw [hw]; exact HP18.2); have hp_ : Kd.R k41 41 w19 w.heap.size (fun _ => True) (.slice (some ⟨go17, 0, none⟩) x6_2.length co13) y268 := (by rw [hw, Ny268.out]; exact HP18.1); clear HP18; have n0_ := M_ (hp_); have n1_ := M_ ((by rw [hw]; exact bs_ (HB.out) GB17.out : Below w.heap.size w w19)); clear HO_6; clear HB; have HO_6 := n0_; have HB := n1_; clear n0_ n1_; clear hg hw hp_))
         (try simp only [← hl6_2])
         go_roundg k2
         case measure => have := HJ2.out; have := HK2.out; omega
         case rel => exact ⟨(y268), (wrap64 (x23_2 + 1)), (by first | rfl | (simp; done) | (simp [*]; done)), H', ⟨by have := HJ2.out; have := HK2.out; omega⟩, ⟨by (try simp only [hl6_2]); (with_reducible repeat (first | apply ra_ | apply rn_ | apply rd_)); exact HO_6.out⟩, bA_⟩
        ·rw [if_neg c16] at H
         exact absurd H (by simp)
       ·rw [if_neg c15] at H
        exact absurd H (by simp)
      ·rw [if_neg c14] at H
       have c14b0 : decide (x23_2 < (t264.length : Int)) = false := decide_eq_false c14
       (try simp only [hl6_2] at c14b0)
       clear c14
       replace H := Option.bind_eq_some_iff.mp H
       obtain ⟨t269, A200, H⟩ := H
       try dsimp only at H
       have A20 := M_ A200
       clear A200
       by_cases c21 : t269 = true
       ·subst c21
        have H1 : (some (x6_2, true)) = some (r1, r2) := by rw [if_pos rfl] at H; exact H
        clear H
        have H := H1
        clear H1
        simp only [Option.some.injEq, Prod.mk.injEq] at H
        obtain ⟨rfl, rfl⟩ := H
        go_wp2_with (first | ((with_reducible refine gate_callee (f := 27) rfl ?_); refine gL_ (some 41) rfl rfl Try.func27 (by kernel_rfl) rfl #[.slice Ao13 x6_2.length co13] rfl ?_; (with_reducible refine (impl_AreTempos.calls k2 _ _ x6_2 true _ ?side1 ?side2 A20.out).mono ?_); (case side1 => exact cU_ (Kd.R_reads' HO_6.out).2.2); (case side2 => exact (Kd.R_reads' HO_6.out).2.1); rintro e w22 ⟨rfl, hb⟩; refine ⟨_, rfl, ?_⟩; have n0_ := M_ (rb_ (rU_ HO_6.out) hb); have n1_ := M_ (bS_ hb); clear HO_6; clear HB; have HO_6 := n0_; have HB := n1_; clear n0_ n1_; (try clear hb); (try clear hb2); (try clear hk); (try clear hi)))
        go_ret2
        exact ⟨_, by first | rfl | (simp [errW_none, errW_some] <;> rfl) | (simp [*, errW_none, errW_some] <;> rfl), by (with_reducible repeat (first | apply ra_ | apply rn_ | apply rd_)); exact HO_6.out, by repeat (first | (with_reducible first | exact HB.out | apply ba_ | apply bn_ | apply b1_) | exact HB.out)⟩
       ·replace c21 := Bool.eq_false_iff.mpr c21
        subst c21
        have H1 : (some (([] : List (S41)), false)) = some (r1, r2) := by rw [if_neg (show ¬ (false = true) by decide)] at H; exact H
        clear H
        have H := H1
        clear H1
        simp only [Option.some.injEq, Prod.mk.injEq] at H
        obtain ⟨rfl, rfl⟩ := H
        go_wp2_with (first | ((with_reducible refine gate_callee (f := 27) rfl ?_); refine gL_ (some 41) rfl rfl Try.func27 (by kernel_rfl) rfl #[.slice Ao13 x6_2.length co13] rfl ?_; (with_reducible refine (impl_AreTempos.calls k2 _ _ x6_2 false _ ?side1 ?side2 A20.out).mono ?_); (case side1 => exact cU_ (Kd.R_reads' HO_6.out).2.2); (case side2 => exact (Kd.R_reads' HO_6.out).2.1); rintro e w23 ⟨rfl, hb⟩; refine ⟨_, rfl, ?_⟩; have n0_ := M_ (rb_ (rU_ HO_6.out) hb); have n1_ := M_ (bS_ hb); clear HO_6; clear HB; have HO_6 := n0_; have HB := n1_; clear n0_ n1_; (try clear hb); (try clear hb2); (try clear hk); (try clear hi)))
        go_ret2
        exact ⟨_, by first | rfl | (simp [errW_none, errW_some] <;> rfl) | (simp [*, errW_none, errW_some] <;> rfl), by first | exact Kd.R_nil _ _ _ _ _ | exact Kd.N_nil _ _ _ _ _ | exact Kd.V_nil _ _ _ _ _ | exact Kd.Q_nil _ _ _ _ _ | exact Kd.S_nil _ _ _ _ _, by repeat (first | (with_reducible first | exact HB.out | apply ba_ | apply bn_ | apply b1_) | exact HB.out)⟩

def spec_teIf.f (k : Nat) (l0 : List (S41)) : Option ((List (S41)) × Bool) := (spec_teGood.f k l0).bind fun t270 => (if t270 = true then (some (l0, true)) else (some (([] : List (S41)), false)))
theorem spec_teIf.mono : ∀ a0 k, LeO (spec_teIf.f k a0) (spec_teIf.f (k + 1) a0) := by
 intro a0 k
 unfold spec_teIf.f
 repeat' first
   | (with_reducible exact spec_teGood.mono _ _)
   | (with_reducible exact LeO.refl _)
   | (with_reducible exact LeO.none _)
   | (with_reducible refine LeO.ite ?_ ?_)
   | (with_reducible refine LeO.bind ?_ (fun _ => ?_))
   | exact spec_teGood.mono _ _
   | exact LeO.none _
   | refine LeO.ite ?_ ?_
   | refine LeO.bind ?_ (fun _ => ?_)
set_option maxHeartbeats 8000000 in
set_option maxRecDepth 100000 in
theorem spec_teIf.calls (k : Nat) (P0_ : Nat → Prop) (u9000_ : Value) (l0 : List (S41)) (r1 : List (S41)) (r2 : Bool) (w0 w : World) (hB : Below w0.heap.size w0 w) (ho0 : Kd.R k41 41 w w0.heap.size P0_ u9000_ l0) (h : spec_teIf.f k l0 = some (r1, r2)) :
  Calls Try.prog 71 #[u9000_] w fun e w' => ∃ v0_ : Value, e = .returned (.tuple #[v0_, .bool r2]) ∧ Kd.R k41 41 w' w0.heap.size (fun k_ => (P0_ k_ ∨ w.heap.size ≤ k_)) v0_ r1 ∧ Below w0.heap.size w0 w' ∧ Kept w w' (fun k_ => P0_ k_) := by
 have HO0 := M_ (show Kd.R k41 41 w w0.heap.size (fun k_ => (P0_ k_ ∨ w.heap.size ≤ k_)) u9000_ l0 from rm_ ho0 (fun k_ hk => (.inl hk)))
 have HK := M_ (Kept.refl w (fun k_ => P0_ k_))
 have HW0 := M_ hB.size
 have HB := M_ hB
 clear hB
 have H : ((spec_teGood.f k l0).bind fun t270 => (if t270 = true then (some (l0, true)) else (some (([] : List (S41)), false)))) = some (r1, r2) := h
 clear h
 replace H := Option.bind_eq_some_iff.mp H
 obtain ⟨t270, A20, H⟩ := H
 try dsimp only at H
 have A2 := M_ A20
 clear A20
 by_cases c3 : t270 = true
 ·subst c3
  have H1 : (some (l0, true)) = some (r1, r2) := by rw [if_pos rfl] at H; exact H
  clear H
  have H := H1
  clear H1
  simp only [Option.some.injEq, Prod.mk.injEq] at H
  obtain ⟨rfl, rfl⟩ := H
  obtain ⟨Ao4, co4, eo4⟩ := Kd.R_slice HO0.out
  subst eo4
  go_enter Try.func71, Try.ntmps71
  go_wp2_with (first | ((with_reducible refine gate_callee (f := 66) rfl ?_); refine gL_ (some 5) rfl rfl Try.func66 (by kernel_rfl) rfl #[.slice Ao4 l0.length co4] rfl ?_; (with_reducible refine (spec_teGood.calls k _ _ l0 true _ ?side1 ?side2 A2.out).mono ?_); (case side1 => exact cU_ (Kd.R_reads' HO0.out).2.2); (case side2 => exact (Kd.R_reads' HO0.out).2.1); rintro e w5 ⟨rfl, hb⟩; refine ⟨_, rfl, ?_⟩; have n0_ := M_ (rb_ (rU_ HO0.out) hb); have n1_ := M_ (Kept.below (S := (fun k_ => P0_ k_)) (by repeat (first | (with_reducible first | exact HK.out | apply Kept.alloc | apply Kept.drewN | apply Kept.drew) | exact HK.out)) hb); have n2_ := M_ (bS_ hb); clear HO0; clear HK; clear HB; have HO0 := n0_; have HK := n1_; have HB := n2_; clear n0_ n1_ n2_; (try clear hb); (try clear hb2); (try clear hk); (try clear hi)))
  go_ret2
  exact ⟨_, by first | rfl | (simp [errW_none, errW_some] <;> rfl) | (simp [*, errW_none, errW_some] <;> rfl), by (with_reducible repeat (first | apply ra_ | apply rn_ | apply rd_)); exact HO0.out, by repeat (first | (with_reducible first | exact HB.out | apply ba_ | apply bn_ | apply b1_) | exact HB.out), by repeat (first | (with_reducible first | exact HK.out | apply Kept.alloc | apply Kept.drewN | apply Kept.drew) | exact HK.out)⟩
 ·replace c3 := Bool.eq_false_iff.mpr c3
  subst c3
  have H1 : (some (([] : List (S41)), false)) = some (r1, r2) := by rw [if_neg (show ¬ (false = true) by decide)] at H; exact H
  clear H
  have H := H1
  clear H1
  simp only [Option.some.injEq, Prod.mk.injEq] at H
  obtain ⟨rfl, rfl⟩ := H
  obtain ⟨Ao6, co6, eo6⟩ := Kd.R_slice HO0.out
  subst eo6
  go_enter Try.func71, Try.ntmps71
  go_wp2_with (first | ((with_reducible refine gate_callee (f := 66) rfl ?_); refine gL_ (some 5) rfl rfl Try.func66 (by kernel_rfl) rfl #[.slice Ao6 l0.length co6] rfl ?_; (with_reducible refine (spec_teGood.calls k _ _ l0 false _ ?side1 ?side2 A2.out).mono ?_); (case side1 => exact cU_ (Kd.R_reads' HO0.out).2.2); (case side2 => exact (Kd.R_reads' HO0.out).2.1); rintro e w7 ⟨rfl, hb⟩; refine ⟨_, rfl, ?_⟩; have n0_ := M_ (rb_ (rU_ HO0.out) hb); have n1_ := M_ (Kept.below (S := (fun k_ => P0_ k_)) (by repeat (first | (with_reducible first | exact HK.out | apply Kept.alloc | apply Kept.drewN | apply Kept.drew) | exact HK.out)) hb); have n2_ := M_ (bS_ hb); clear HO0; clear HK; clear HB; have HO0 := n0_; have HK := n1_; have HB := n2_; clear n0_ n1_ n2_; (try clear hb); (try clear hb2); (try clear hk); (try clear hi)))
  go_ret2
  exact ⟨_, by first | rfl | (simp [errW_none, errW_some] <;> rfl) | (simp [*, errW_none, errW_some] <;> rfl), by first | exact Kd.R_nil _ _ _ _ _ | exact Kd.N_nil _ _ _ _ _ | exact Kd.V_nil _ _ _ _ _ | exact Kd.Q_nil _ _ _ _ _ | exact Kd.S_nil _ _ _ _ _, by repeat (first | (with_reducible first | exact HB.out | apply ba_ | apply bn_ | apply b1_) | exact HB.out), by repeat (first | (with_reducible first | exact HK.out | apply Kept.alloc | apply Kept.drewN | apply Kept.drew) | exact HK.out)⟩

mutual
def spec_ScaleTempos.j0 : Nat → List (S41) → Int → Bool → Option ((List (S41)) × Bool)
 | 0, _, _, _ => none
 | k + 1, x0, x1, x16 => if x16 = true then (some (([] : List (S41)), false)) else (spec_ScaleTempos.l0 k x1 ([] : List (S41)) x0 (x0.length : Int) 0)
def spec_ScaleTempos.l0 : Nat → Int → List (S41) → List (S41) → Int → Int → Option ((List (S41)) × Bool)
 | 0, _, _, _, _, _ => none
 | k + 1, x1, x6, x17, x18, x19 => if x19 < x18 then (if 0 ≤ x19 then (if x19 < (x17.length : Int) then (if x6.length < 8796093022208 then (spec_ScaleTempos.l0 k x1 (x6 ++ [(⟨(rd_T41 x17 x19).f0, wrap64 (Int.tdiv (wrap64 ((wrap64 (((rd_T41 x17 x19).f1) * x1)) + 50)) 100)⟩ : S41)]) x17 x18 (wrap64 (x19 + 1))) else (none)) else (none)) else (none)) else ((spec_teIf.f k x6).bind fun bt278 => (some (bt278.1, bt278.2)))
end
def spec_ScaleTempos.f (k : Nat) (l0 : List (S41)) (a1 : Int) : Option ((List (S41)) × Bool) := (spec_teGood.f k l0).bind fun t271 => (if t271 = true then ((spec_l1In.f a1 1 400).bind fun t272 => (spec_ScaleTempos.j0 k l0 a1 (!t272))) else (spec_ScaleTempos.j0 k l0 a1 true))
theorem spec_ScaleTempos.mono_l : ∀ k, (∀ y0 y1 y2, LeO (spec_ScaleTempos.j0 k y0 y1 y2) (spec_ScaleTempos.j0 (k + 1) y0 y1 y2)) ∧ (∀ y0 y1 y2 y3 y4, LeO (spec_ScaleTempos.l0 k y0 y1 y2 y3 y4) (spec_ScaleTempos.l0 (k + 1) y0 y1 y2 y3 y4))
 | 0 => ⟨fun _ _ _ r h => by simp [spec_ScaleTempos.j0] at h, fun _ _ _ _ _ r h => by simp [spec_ScaleTempos.l0] at h⟩
 | k + 1 => by
  obtain ⟨ih0, ih1⟩ := spec_ScaleTempos.mono_l k
  refine ⟨?_, ?_⟩
  ·intro y0 y1 y2
   unfold spec_ScaleTempos.j0
   repeat' first
   | (with_reducible exact ih0 _ _ _)
   | (with_reducible exact ih1 _ _ _ _ _)
   | (with_reducible exact spec_teGood.mono _ _)
   | (with_reducible exact spec_teIf.mono _ _)
   | (with_reducible exact LeO.refl _)
   | (with_reducible exact LeO.none _)
   | (with_reducible refine LeO.ite ?_ ?_)
   | (with_reducible refine LeO.bind ?_ (fun _ => ?_))
   | exact ih0 _ _ _
   | exact ih1 _ _ _ _ _
   | exact spec_teGood.mono _ _
   | exact spec_teIf.mono _ _
   | exact LeO.none _
   | refine LeO.ite ?_ ?_
   | refine LeO.bind ?_ (fun _ => ?_)
  ·intro y0 y1 y2 y3 y4
   unfold spec_ScaleTempos.l0
   repeat' first
   | (with_reducible exact ih0 _ _ _)
   | (with_reducible exact ih1 _ _ _ _ _)
   | (with_reducible exact spec_teGood.mono _ _)
   | (with_reducible exact spec_teIf.mono _ _)
   | (with_reducible exact LeO.refl _)
   | (with_reducible exact LeO.none _)
   | (with_reducible refine LeO.ite ?_ ?_)
   | (with_reducible refine LeO.bind ?_ (fun _ => ?_))
   | exact ih0 _ _ _
   | exact ih1 _ _ _ _ _
   | exact spec_teGood.mono _ _
   | exact spec_teIf.mono _ _
   | exact LeO.none _
   | refine LeO.ite ?_ ?_
   | refine LeO.bind ?_ (fun _ => ?_)
theorem spec_ScaleTempos.mono : ∀ a0 a1 k, LeO (spec_ScaleTempos.f k a0 a1) (spec_ScaleTempos.f (k + 1) a0 a1) := by
 intro a0 a1 k
 obtain ⟨ih0, ih1⟩ := spec_ScaleTempos.mono_l k
 unfold spec_ScaleTempos.f
 repeat' first
   | (with_reducible exact ih0 _ _ _)
   | (with_reducible exact ih1 _ _ _ _ _)
   | (with_reducible exact spec_teGood.mono _ _)
   | (with_reducible exact spec_teIf.mono _ _)
   | (with_reducible exact LeO.refl _)
   | (with_reducible exact LeO.none _)
   | (with_reducible refine LeO.ite ?_ ?_)
   | (with_reducible refine LeO.bind ?_ (fun _ => ?_))
   | exact ih0 _ _ _
   | exact ih1 _ _ _ _ _
   | exact spec_teGood.mono _ _
   | exact spec_teIf.mono _ _
   | exact LeO.none _
   | refine LeO.ite ?_ ?_
   | refine LeO.bind ?_ (fun _ => ?_)
set_option maxHeartbeats 8000000 in
set_option maxRecDepth 100000 in
theorem spec_ScaleTempos.calls (k : Nat) (A0 : Option Addr) (c0 : Nat) (l0 : List (S41)) (a1 : Int) (r1 : List (S41)) (r2 : Bool) (w : World) (hr0 : Kd.C k41 w A0 l0.length l0) (hc0 : l0.length ≤ c0) (h : spec_ScaleTempos.f k l0 a1 = some (r1, r2)) :
  Calls Try.prog 13 #[.slice A0 l0.length c0, .int .i64 a1] w fun e w' => ∃ v0_ : Value, e = .returned (.tuple #[v0_, .bool r2]) ∧ Kd.R k41 41 w' w.heap.size (fun _ => True) v0_ r1 ∧ Below w.heap.size w w' := by
 have hu41 := Try.underlying41
 have HR0 := M_ hr0
 have HC0 := M_ hc0
 clear hr0 hc0
 have HB := M_ (Below.refl w.heap.size w)
 have H : ((spec_teGood.f k l0).bind fun t271 => (if t271 = true then ((spec_l1In.f a1 1 400).bind fun t272 => (spec_ScaleTempos.j0 k l0 a1 (!t272))) else (spec_ScaleTempos.j0 k l0 a1 true))) = some (r1, r2) := h
 clear h
 have HC3 := M_ H
 clear H
 go_enter Try.func13, Try.ntmps13
 go_upto_region 1 with (fail)
 go_cut [16] (fun v16 wc => ∃ (kq : Nat) (x16_2 : Bool), v16 = .bool x16_2 ∧ Aside0 (spec_ScaleTempos.j0 kq l0 a1 x16_2 = some (r1, r2)) ∧ Aside0 (kq ≤ k) ∧ Aside0 (Below w.heap.size w wc))
 case first =>
  have H := HC3.out
  clear HC3
  replace H := Option.bind_eq_some_iff.mp H
  obtain ⟨t271, A40, H⟩ := H
  try dsimp only at H
  have A4 := M_ A40
  clear A40
  by_cases c5 : t271 = true
  ·subst c5
   have H1 : ((spec_l1In.f a1 1 400).bind fun t272 => (spec_ScaleTempos.j0 k l0 a1 (!t272))) = some (r1, r2) := by rw [if_pos rfl] at H; exact H
   clear H
   have H := H1
   clear H1
   replace H := Option.bind_eq_some_iff.mp H
   obtain ⟨t272, A60, H⟩ := H
   replace H : (spec_ScaleTempos.j0 k l0 a1 (!t272)) = some (r1, r2) := H
   have A6 := M_ A60
   clear A60
   have H' := M_ H
   clear H
   go_wp2_with (first | ((with_reducible refine gate_callee (f := 66) rfl ?_); refine gL_ (some 10) rfl rfl Try.func66 (by kernel_rfl) rfl #[.slice A0 l0.length c0] rfl ?_; (with_reducible refine (spec_teGood.calls k _ _ l0 true _ ?side1 ?side2 A4.out).mono ?_); (case side1 => exact cU_ (Kd.C_below HR0.out HB.out)); (case side2 => exact HC0.out); rintro e w7 ⟨rfl, hb⟩; refine ⟨_, rfl, ?_⟩; have n0_ := M_ (bS_ hb); clear HB; have HB := n0_; clear n0_; (try clear hb); (try clear hb2); (try clear hk); (try clear hi)) | (go_at_call 70; (with_reducible refine (spec_l1In.calls a1 1 400 t272 _ A6.out).mono ?_); rintro e w' ⟨rfl, ⟨nd, rfl⟩⟩))
   go_meet
   case rel => exact ⟨_, (!t272), (by first | rfl | (simp; done) | (simp [*]; done)), H', ⟨by first | omega | exact Nat.le_refl _⟩, bA_⟩
  ·replace c5 := Bool.eq_false_iff.mpr c5
   subst c5
   have H1 : (spec_ScaleTempos.j0 k l0 a1 true) = some (r1, r2) := by rw [if_neg (show ¬ (false = true) by decide)] at H; exact H
   clear H
   have H := H1
   clear H1
   have H' := M_ H
   clear H
   go_wp2_with (first | ((with_reducible refine gate_callee (f := 66) rfl ?_); refine gL_ (some 10) rfl rfl Try.func66 (by kernel_rfl) rfl #[.slice A0 l0.length c0] rfl ?_; (with_reducible refine (spec_teGood.calls k _ _ l0 false _ ?side1 ?side2 A4.out).mono ?_); (case side1 => exact cU_ (Kd.C_below HR0.out HB.out)); (case side2 => exact HC0.out); rintro e w8 ⟨rfl, hb⟩; refine ⟨_, rfl, ?_⟩; have n0_ := M_ (bS_ hb); clear HB; have HB := n0_; clear n0_; (try clear hb); (try clear hb2); (try clear hk); (try clear hi)))
   go_meet
   case rel => exact ⟨_, (true), (by first | rfl | (simp; done) | (simp [*]; done)), H', ⟨by first | omega | exact Nat.le_refl _⟩, bA_⟩
 case rest =>
  clear HC3
  try clear c1
  try clear p2
  try clear c5
  try clear c6
  obtain ⟨kq, x16_2, rfl, HA, HJ2, HB⟩ := hcut
  cases kq with
  | zero => exact absurd HA.out (by simp [spec_ScaleTempos.j0])
  | succ kj2 =>
   have H := HA.out
   clear HA
   simp only [spec_ScaleTempos.j0] at H
   by_cases c9 : x16_2 = true
   ·subst c9
    have H1 : (some (([] : List (S41)), false)) = some (r1, r2) := by rw [if_pos rfl] at H; exact H
    clear H
    have H := H1
    clear H1
    simp only [Option.some.injEq, Prod.mk.injEq] at H
    obtain ⟨rfl, rfl⟩ := H
    go_wp2
    go_ret2
    exact ⟨_, by first | rfl | (simp [errW_none, errW_some] <;> rfl) | (simp [*, errW_none, errW_some] <;> rfl), by first | exact Kd.R_nil _ _ _ _ _ | exact Kd.N_nil _ _ _ _ _ | exact Kd.V_nil _ _ _ _ _ | exact Kd.Q_nil _ _ _ _ _ | exact Kd.S_nil _ _ _ _ _, by repeat (first | (with_reducible first | exact HB.out | apply ba_ | apply bn_ | apply b1_) | exact HB.out)⟩
   ·replace c9 := Bool.eq_false_iff.mpr c9
    subst c9
    have H1 : (spec_ScaleTempos.l0 kj2 a1 ([] : List (S41)) l0 (l0.length : Int) 0) = some (r1, r2) := by rw [if_neg (show ¬ (false = true) by decide)] at H; exact H
    clear H
    have H := H1
    clear H1
    have H' := M_ H
    clear H
    go_wp2
    go_loopg [6, 19] kj2 (fun kq v6 v19 w' => ∃ (x6_2 : List (S41)) (x19_2 : Int), v19 = .int .i64 x19_2 ∧ Aside0 (spec_ScaleTempos.l0 kq a1 x6_2 l0 (l0.length : Int) x19_2 = some (r1, r2)) ∧ Aside0 (kq ≤ kj2) ∧ Aside0 (Kd.R k41 41 w' w.heap.size (fun _ => True) v6 x6_2) ∧ Aside0 (Below w.heap.size w w'))
    case atStart => exact ⟨(([] : List (S41))), (0), (by first | rfl | (simp; done) | (simp [*]; done)), H', ⟨Nat.le_refl _⟩, ⟨by first | exact Kd.R_nil _ _ _ _ _ | exact Kd.N_nil _ _ _ _ _ | exact Kd.V_nil _ _ _ _ _ | exact Kd.Q_nil _ _ _ _ _ | exact Kd.S_nil _ _ _ _ _⟩, bA_⟩
    case round =>
     clear H'
     try clear c1
     try clear p2
     try clear c5
     try clear c6
     try clear c9
     try clear p2
     obtain ⟨x6_2, x19_2, rfl, HA, HK2, HO_6, HB⟩ := hrel
     cases gk with
     | zero => exact absurd HA.out (by simp [spec_ScaleTempos.l0])
     | succ k2 =>
      have H := HA.out
      clear HA
      simp only [spec_ScaleTempos.l0] at H
      by_cases c10 : x19_2 < (l0.length : Int)
      ·rw [if_pos c10] at H
       have c10b0 : decide (x19_2 < (l0.length : Int)) = true := decide_eq_true c10
       clear c10
       by_cases c11 : 0 ≤ x19_2
       ·rw [if_pos c11] at H
        have c11b0 : decide (0 ≤ x19_2) = true := decide_eq_true c11
        clear c11
        by_cases c12 : x19_2 < (l0.length : Int)
        ·rw [if_pos c12] at H
         have c12b0 : decide (x19_2 < (l0.length : Int)) = true := decide_eq_true c12
         clear c12
         by_cases c13 : x6_2.length < 8796093022208
         ·rw [if_pos c13] at H
          have LMc13 := M_ c13
          clear c13
          obtain ⟨y275, hy275⟩ : ∃ y_ : List (S41), y_ = (x6_2 ++ [(⟨(rd_T41 l0 x19_2).f0, wrap64 (Int.tdiv (wrap64 ((wrap64 (((rd_T41 l0 x19_2).f1) * a1)) + 50)) 100)⟩ : S41)]) := ⟨_, rfl⟩
          replace H : (spec_ScaleTempos.l0 k2 a1 y275 l0 (l0.length : Int) (wrap64 (x19_2 + 1))) = some (r1, r2) := by first | (rw [hy275]; with_reducible exact H) | (have H2_ := (Option.bind_some _ _).symm.trans H; rw [hy275]; with_reducible exact H2_) | (have H2_ := (Option.bind_some _ _).symm.trans H; with_reducible exact H2_) | with_reducible exact H | (rw [hy275]; exact H) | exact H
          have Ny275 := M_ hy275
          clear hy275
          have H' := M_ H
          clear H
          have p273 : 0 ≤ (x19_2 : Int) := dT_
          have q273 : x19_2 < (l0.length : Int) := dT_
          obtain ⟨ad273, e273, hx273_0, hx273_1⟩ := at_T41 HR0.out x19_2 p273 q273
          cases e273
          replace hx273_0 := (HB.out.cell (World.block_lt_of_cell? w _ hx273_0)).trans hx273_0
          replace hx273_1 := (HB.out.cell (World.block_lt_of_cell? w _ hx273_1)).trans hx273_1
          replace p273 := eq_true p273
          replace q273 := eq_true q273
          go_wp2_with (first | ((with_reducible refine gate_dst (N := 8) rfl ?_); refine box_event ?hg (N := 8) ?hd (cs := #[.int .i64 0, .int .i64 0]) (t := 41) ?hr ?_; (case hd => rfl); (case hg => rfl); (case hr => first | (go_simp; done) | (go_simp; rfl)); intro gb274 hg w14 hbox hb; have n0_ := M_ (rb_ (Kd.R_elderB (rU_ HO_6.out) gb274 (Nat.le_of_eq hg.symm)) hb); have n1_ := M_ (bS_ hb); have n2_ := M_ (hbox); have n3_ := M_ ((by rw [hg]; exact bZ_ : w.heap.size ≤ gb274)); have n4_ := M_ ((by rw [hg]; exact bZ_ : w.heap.size ≤ gb274)); clear HO_6; clear HB; have HO_6 := n0_; have HB := n1_; have BK274 := n2_; have GW274 := n3_; have GE274 := n4_; clear n0_ n1_ n2_ n3_ n4_; clear hb hbox hg; have hcz15_0 : w14.cell? ⟨gb274, 0, none⟩ = some (.int .i64 0) := (blk_cell BK274.out 0).trans rfl; have hcz15_1 : w14.cell? ⟨gb274, 1, none⟩ = some (.int .i64 0) := (blk_cell BK274.out 1).trans rfl; have hfz15_0 := blk_frozen BK274.out 0; have hfz15_1 := blk_frozen BK274.out 1) | ((with_reducible refine gate_builtin (b := .append) (xs := #[.tmp 23, .tmp 33]) rfl ?_); at_builtin; refine Kd.R_append k41 (w0 := w) w.heap.size rfl (.tmp 23) (.tmp 33) 23 41 (.agg #[(.int .i64 0), (.int .i64 0)]) 16 rfl Try.underlying23 info41 rfl (by decide) (by omega) u6 x6_2 (⟨(rd_T41 l0 x19_2).f0, wrap64 (Int.tdiv (wrap64 ((wrap64 (((rd_T41 l0 x19_2).f1) * a1)) + 50)) 100)⟩ : S41) [.int .i64 ((rd_T41 l0 x19_2).f0), .int .i64 (wrap64 (Int.tdiv (wrap64 ((wrap64 (((rd_T41 l0 x19_2).f1) * a1)) + 50)) 100))] (fun k_ => k_ ≠ gb274) (fun _ => False) rfl (by first | (go_simp; done) | (go_simp; rfl)) ?aP (fun _ hk => hk.elim) ?aF ?aO ?aB ?aS ?aL ?_; (case aP => exact k41_mkM _ _ _ (⟨(rd_T41 l0 x19_2).f0, wrap64 (Int.tdiv (wrap64 ((wrap64 (((rd_T41 l0 x19_2).f1) * a1)) + 50)) 100)⟩ : S41)); (case aB => exact (by repeat (first | (with_reducible first | exact HB.out | apply ba_ | apply bn_ | apply b1_ | refine bs_ ?_ GE274.out) | exact HB.out))); (case aF => exact (fun k_ hk => Kd.freshB (g := gb274) (o := .cells #[.int .i64 ((rd_T41 l0 x19_2).f0), .int .i64 ((rd_T41 l0 x19_2).f1)] 41 (0, 0)) (by (with_reducible repeat (first | refine kn_ ?_ _ | refine kd_ ?_ | refine ka_ ?_ _)); refine blk_put (cs := #[.int .i64 ((rd_T41 l0 x19_2).f0), .int .i64 0]) ?_ 1 _ rfl; (with_reducible repeat (first | refine kn_ ?_ _ | refine kd_ ?_ | refine ka_ ?_ _)); refine blk_put (cs := #[.int .i64 0, .int .i64 0]) ?_ 0 _ rfl; (with_reducible repeat (first | refine kn_ ?_ _ | refine kd_ ?_ | refine ka_ ?_ _)); exact BK274.out) k_ hk)); (case aO => exact (by (with_reducible repeat (first | apply ra_ | apply rn_ | apply rd_)); exact rm_ (Kd.R_far (p := ⟨gb274, 1, none⟩) (Kd.R_far (p := ⟨gb274, 0, none⟩) (rm_ HO_6.out (fun k_ hk => (⟨hk, hk.2⟩ : _ ∧ k_ ≠ gb274))) (fun _ hk => hk.2) (.int .i64 ((rd_T41 l0 x19_2).f0))) (fun _ hk => hk.2) (.int .i64 ((rd_T41 l0 x19_2).f1))) (fun _ hk => hk.1.2))); (case aS => exact (below_size (by repeat (first | (with_reducible first | exact HB.out | apply ba_ | apply bn_ | apply b1_ | refine bs_ ?_ GE274.out) | exact HB.out)))); (case aL => have := LMc13.out; omega); intro v276 w16 ho hb hg hat; rw [← Ny275.out] at ho; have n0_ := M_ (blk_grown (g := gb274) (o := .cells #[.int .i64 ((rd_T41 l0 x19_2).f0), .int .i64 ((rd_T41 l0 x19_2).f1)] 41 (0, 0)) (by (with_reducible repeat (first | refine kn_ ?_ _ | refine kd_ ?_ | refine ka_ ?_ _)); refine blk_put (cs := #[.int .i64 ((rd_T41 l0 x19_2).f0), .int .i64 0]) ?_ 1 _ rfl; (with_reducible repeat (first | refine kn_ ?_ _ | refine kd_ ?_ | refine ka_ ?_ _)); refine blk_put (cs := #[.int .i64 0, .int .i64 0]) ?_ 0 _ rfl; (with_reducible repeat (first | refine kn_ ?_ _ | refine kd_ ?_ | refine ka_ ?_ _)); exact BK274.out) hg (Kd.R_away HO_6.out (fun _ hk => hk.2))); have n1_ := M_ (hb); have n2_ := M_ (ho); clear BK274; clear HB; clear HO_6; have BK274 := n0_; have HB := n1_; have HO277 := n2_; clear n0_ n1_ n2_; clear ho hb hg hat))
          go_roundg k2
          case measure => have := HJ2.out; have := HK2.out; omega
          case rel => exact ⟨(y275), (wrap64 (x19_2 + 1)), (by first | rfl | (simp; done) | (simp [*]; done)), H', ⟨by have := HJ2.out; have := HK2.out; omega⟩, ⟨by (with_reducible repeat (first | apply ra_ | apply rn_ | apply rd_)); exact rm_ HO277.out (fun _ hk => trivial)⟩, ⟨by repeat (first | (with_reducible first | exact HB.out | apply ba_ | apply bn_ | apply b1_ | refine bs_ ?_ GE274.out) | exact HB.out)⟩⟩
         ·rw [if_neg c13] at H
          exact absurd H (by simp)
        ·rw [if_neg c12] at H
         exact absurd H (by simp)
       ·rw [if_neg c11] at H
        exact absurd H (by simp)
      ·rw [if_neg c10] at H
       have c10b0 : decide (x19_2 < (l0.length : Int)) = false := decide_eq_false c10
       clear c10
       replace H := Option.bind_eq_some_iff.mp H
       obtain ⟨⟨t278, t281⟩, A170, H⟩ := H
       replace H : (some (t278, t281)) = some (r1, r2) := H
       have A17 := M_ A170
       clear A170
       simp only [Option.some.injEq, Prod.mk.injEq] at H
       obtain ⟨rfl, rfl⟩ := H
       obtain ⟨Ao18, co18, eo18⟩ := Kd.R_slice HO_6.out
       subst eo18
       go_wp2_with (first | ((with_reducible refine gate_callee (f := 71) rfl ?_); refine gL_ (some 37) rfl rfl Try.func71 (by kernel_rfl) rfl #[.slice Ao18 x6_2.length co18] rfl ?_; (with_reducible refine (spec_teIf.calls k2 (fun k_ => some k_ = (.slice Ao18 x6_2.length co18 : Value).ownBlock) (.slice Ao18 x6_2.length co18) x6_2 t278 t281 w _ ?side1 ?side2 A17.out).mono ?_); (case side1 => repeat (first | (with_reducible first | exact HB.out | apply ba_ | apply bn_ | apply b1_) | exact HB.out)); (case side2 => exact Kd.R_tight rfl HO_6.out); rintro e w19 ⟨v279, rfl, ho0, hb, hkp⟩; refine ⟨_, rfl, ?_⟩; have n0_ := M_ (rm_ (ok' := fun k_ => True) ho0 (fun k_ hk_ => trivial)); have n1_ := M_ (hb); clear HB; clear HO_6; have HO280 := n0_; have HB := n1_; clear n0_ n1_; (try clear hb); (try clear hkp); (try clear ho0)))
       go_ret2
       exact ⟨_, by first | rfl | (simp [errW_none, errW_some] <;> rfl) | (simp [*, errW_none, errW_some] <;> rfl), by (with_reducible repeat (first | apply ra_ | apply rn_ | apply rd_)); exact HO280.out, by repeat (first | (with_reducible first | exact HB.out | apply ba_ | apply bn_ | apply b1_) | exact HB.out)⟩

end Go.Proofs.Ytgeipgflhjakjaa.PFnTempoChanges
