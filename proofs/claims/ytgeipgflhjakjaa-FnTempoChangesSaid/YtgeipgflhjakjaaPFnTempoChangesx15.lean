-- by wip/xprint.py, over the kit's printer
import Derived.Test.YtgeipgflhjakjaaPFnTempoChangesx0
import Derived.Test.YtgeipgflhjakjaaPFnTempoChangesx4
import Derived.Test.YtgeipgflhjakjaaPFnTempoChangesx5
import Derived.Test.YtgeipgflhjakjaaPFnTempoChangesx6
import Derived.Test.YtgeipgflhjakjaaPFnTempoChangesx8
import Derived.Test.YtgeipgflhjakjaaPFnTempoChangesx9
import Derived.Test.YtgeipgflhjakjaaPFnTempoChangesx10
import Derived.Test.YtgeipgflhjakjaaPFnTempoChangesx11
import Derived.Test.YtgeipgflhjakjaaPFnTempoChangesx12
import Derived.Test.YtgeipgflhjakjaaPFnTempoChangesx14
namespace Go.Proofs.Ytgeipgflhjakjaa.PFnTempoChanges
open Go.RowKit Go.Proofs.YtgeipgflhjakjaaW.PrintWords Go.Proofs.YtgeipgflhjakjaaW.PrintLast Go.Proofs.YtgeipgflhjakjaaW.PrintMore
attribute [local go_sem] max2_int min2_int max_two min_two max_three min_three max_four min_four   -- for this text's walks alone
set_option linter.unusedVariables false
set_option linter.unusedSimpArgs false
private abbrev M_ {p : Prop} (h : p) : Aside0 p := Aside0.mk h
private abbrev la_ := @List.setIfInBounds_toArray
private abbrev lb_ := @List.set_cons_zero
private abbrev lc_ := @List.set_cons_succ
private abbrev bn_ := @pw_below_drewN
private abbrev b1_ := @below_drew1
private abbrev ba_ := @below_alloc
private abbrev bs_ := @below_set
private abbrev kn_ := @blk_drewN
private abbrev ka_ := @blk_alloc
private abbrev kd_ := @blk_drew
private abbrev rn_ := @Kd.R_drewN
private abbrev ra_ := @Kd.R_alloc
private abbrev rd_ := @Kd.R_drew
private abbrev rb_ := @Kd.R_below
private abbrev rm_ := @Kd.R_mono
private abbrev rt_ := @Kd.R_types
private theorem bS_ {w W w2 : World} (k : Below W.heap.size W w2) (h : Below w.heap.size w W := by repeat (first | (with_reducible first | exact HB.out | apply ba_ | apply bn_ | apply b1_) | exact HB.out)) : Below w.heap.size w w2 := below_step h k
private theorem bZ_ {w W : World} (h : Below w.heap.size w W := by repeat (first | (with_reducible first | exact HB.out | apply ba_ | apply bn_ | apply b1_) | exact HB.out)) : w.heap.size ≤ W.heap.size := below_size h
private theorem bA_ {w W : World} {n : Nat} (h : Below n w W := by repeat (first | (with_reducible first | exact HB.out | apply ba_ | apply bn_ | apply b1_) | exact HB.out)) : Aside0 (Below n w W) := ⟨h⟩
private theorem eW_ {p : Prop} {w W : World} {n : Nat} (h1 : p := by first | rfl | (simp [errW_none, errW_some] <;> rfl) | (simp [*, errW_none, errW_some] <;> rfl)) (h2 : Below n w W := by repeat (first | (with_reducible first | exact HB.out | apply ba_ | apply bn_ | apply b1_) | exact HB.out)) : p ∧ Below n w W := ⟨h1, h2⟩
private theorem dT_ {p : Prop} [Decidable p] (h : decide p = true := by first | (with_reducible assumption) | assumption) : p := of_decide_eq_true h
private theorem rU_ {α : Type} {d : Kd α} {e : Nat} {w w' : World} {b : Nat} {ok : Nat → Prop} {v : Value} {xs : List α} (h : d.R e w b ok v xs) (u : d.R e w b ok v xs → d.R e w' b ok v xs := by intro h_; (with_reducible repeat (first | apply ra_ | apply rn_ | apply rd_)); exact h_) : d.R e w' b ok v xs := u h
private theorem cU_ {α : Type} {d : Kd α} {w w' : World} {A : Option Addr} {n : Nat} {xs : List α} (h : d.C w A n xs) (u : d.C w A n xs → d.C w' A n xs := by intro h_; repeat (first | exact h_ | (with_reducible refine Kd.C_alloc ?_ _) | (with_reducible refine Kd.C_drewN ?_ _) | (with_reducible refine Kd.C_drew ?_))) : d.C w' A n xs := u h
private theorem gL_ {P : Program} {ops : Array Oper} {Q : Exit → Act → World → Prop} {rest : List Oper} {oi : Oper} {a : Act} {w : World} (N : Option Tmp) (hd : oi.dst = N) (hg : oi.guard = none) {f : FuncId} {fn : Func} {as1 : Array Operand} {ts : Array TypeId} (hf : P.funcs[f]? = some fn) (hname : (fn.name == "runtime.NumGoroutine") = false) (hb : fn.body.isSome = true) (args : Array Value) (hop : oi.op = .call { callee := .value (.func f), args := as1, argTypes := ts }) (h : Calls P f args w fun e w' => ∃ v, e = .returned v ∧ wpList P ops Q rest (a.put N v) w') (hargs : as1.map a.eval = args := by (try simp only [List.map_toArray, List.map_cons, List.map_nil]); first | done | rfl | (simp only [List.length_drop, List.length_take]; rfl)) : wpList P ops Q (oi :: rest) a w := goesL_ N hd hg hf hname hb args hop hargs h

mutual
def laws_FnTempoChanges.j0 : Nat → List (S41) → List (S41) → Bool → List (S41) → List (S41) → Int → Bool → List (S41) → List (S41) → Int → Int → Bool → Int → List (S41) → Int → List (S41) → Bool → List (S41) → Int → Int → Bool → Int → Int → Bool → Option (Bool)
 | 0, _, _, _, _, _, _, _, _, _, _, _, _, _, _, _, _, _, _, _, _, _, _, _, _ => none
 | k + 1, x5, x6, x7, x8, x10, x11, x13, x14, x16, x17, x18, x20, x21, x23, x24, x25, x26, x29, x30, x31, x34, x35, x36, x242 => if x242 = true then (some false) else (if x13 = true then (if x11 = 100 then ((laws_qTempos.f k x14 x10).bind fun t540 => (laws_FnTempoChanges.j1 k x5 x6 x7 x8 x16 x17 x18 x20 x21 x23 x24 x25 x26 x29 x30 x31 x34 x35 x36 (!t540))) else (laws_FnTempoChanges.j1 k x5 x6 x7 x8 x16 x17 x18 x20 x21 x23 x24 x25 x26 x29 x30 x31 x34 x35 x36 false)) else (laws_FnTempoChanges.j1 k x5 x6 x7 x8 x16 x17 x18 x20 x21 x23 x24 x25 x26 x29 x30 x31 x34 x35 x36 false))
def laws_FnTempoChanges.j1 : Nat → List (S41) → List (S41) → Bool → List (S41) → List (S41) → Int → Int → Bool → Int → List (S41) → Int → List (S41) → Bool → List (S41) → Int → Int → Bool → Int → Int → Bool → Option (Bool)
 | 0, _, _, _, _, _, _, _, _, _, _, _, _, _, _, _, _, _, _, _, _ => none
 | k + 1, x5, x6, x7, x8, x16, x17, x18, x20, x21, x23, x24, x25, x26, x29, x30, x31, x34, x35, x36, x253 => if x253 = true then (some false) else (if x20 = true then ((impl_TimeBetween.f k x16 x17 x18).bind fun bt541 => (if bt541.2 = true then (if (wrap64 (x21 * (wrap64 (x18 - x17)))) > bt541.1 then (some false) else (if (wrap64 ((wrap64 (x21 + 1)) * (wrap64 (x18 - x17)))) ≤ bt541.1 then (some false) else (laws_FnTempoChanges.j2 k x5 x6 x7 x8 x23 x24 x25 x26 x29 x30 x31 x34 x35 x36))) else (some false))) else (laws_FnTempoChanges.j2 k x5 x6 x7 x8 x23 x24 x25 x26 x29 x30 x31 x34 x35 x36))
def laws_FnTempoChanges.j2 : Nat → List (S41) → List (S41) → Bool → List (S41) → List (S41) → Int → List (S41) → Bool → List (S41) → Int → Int → Bool → Int → Int → Option (Bool)
 | 0, _, _, _, _, _, _, _, _, _, _, _, _, _, _ => none
 | k + 1, x5, x6, x7, x8, x23, x24, x25, x26, x29, x30, x31, x34, x35, x36 => if x26 = true then (if 0 ≤ x24 then (if x24 < (x23.length : Int) then ((impl_AddTempo.f k x25 ((rd_T41 x23 x24).f0) ((rd_T41 x23 x24).f1)).bind fun bt544 => (if bt544.2 = true then ((laws_qTempos.f k bt544.1 x23).bind fun t548 => (if t548 = true then (laws_FnTempoChanges.j3 k x5 x6 x7 x8 x29 x30 x31 x34 x35 x36) else (some false))) else (some false))) else (none)) else (none)) else (laws_FnTempoChanges.j3 k x5 x6 x7 x8 x29 x30 x31 x34 x35 x36)
def laws_FnTempoChanges.j3 : Nat → List (S41) → List (S41) → Bool → List (S41) → List (S41) → Int → Int → Bool → Int → Int → Option (Bool)
 | 0, _, _, _, _, _, _, _, _, _, _ => none
 | k + 1, x5, x6, x7, x8, x29, x30, x31, x34, x35, x36 => if x34 = true then ((impl_TempoAt.f k x29 x30).bind fun bt549 => (if bt549.2 = true then (if x36 < 1 then (some false) else (if (wrap64 (x35 * bt549.1)) = (wrap64 ((wrap64 (1000000 * x31)) * x36)) then (laws_FnTempoChanges.j4 k x5 x6 x7 x8) else (some false))) else (some false))) else (laws_FnTempoChanges.j4 k x5 x6 x7 x8)
def laws_FnTempoChanges.j4 : Nat → List (S41) → List (S41) → Bool → List (S41) → Option (Bool)
 | 0, _, _, _, _ => none
 | k + 1, x5, x6, x7, x8 => if x7 = true then ((some (([0, 1, 50, 1000, 2000] : List Int) : List Int)).bind fun y551 => (laws_FnTempoChanges.l0 k x5 x6 x8 y551 (y551.length : Int) 0)) else (some true)
def laws_FnTempoChanges.l0 : Nat → List (S41) → List (S41) → List (S41) → List Int → Int → Int → Option (Bool)
 | 0, _, _, _, _, _, _ => none
 | k + 1, x5, x6, x8, x326, x327, x328 => if x328 < x327 then (if 0 ≤ x328 then (if x328 < (x326.length : Int) then ((impl_TimeOf.f k x6 (rd x326 x328)).bind fun bt560 => ((impl_TimeOf.f k x5 (rd x326 x328)).bind fun bt562 => ((spec_TimeOf.f k x5 (rd x326 x328)).bind fun bt564 => (if bt560.2 = true then (if bt562.2 = true then (if bt564.2 = true then (if bt560.1 = bt564.1 then (if bt562.1 = bt564.1 then (laws_FnTempoChanges.l0 k x5 x6 x8 x326 x327 (wrap64 (x328 + 1))) else (some false)) else (some false)) else (some false)) else (some false)) else (some false))))) else (none)) else (none)) else ((impl_SimpleTempos.f k x6).bind fun bt554 => (if bt554.2 = true then ((laws_qTempos.f k bt554.1 x8).bind fun t558 => (if t558 = true then (some (decide ((x8.length : Int) ≤ (x5.length : Int)))) else (some false))) else (some false)))
end
def laws_FnTempoChanges.f (k : Nat) (l0 : List Int) (l1 : List Int) : Option (Bool) := if (wrap64 ((l0.length : Int) + (l1.length : Int))) > 1048576 then (some true) else ((spec_DrawSimpleTempos.f k l0).bind fun t473 => ((impl_SimpleTempos.f k t473).bind fun bt476 => ((spec_SimpleTempos.f k t473).bind fun bt480 => ((spec_DrawScaleTempos.f k l1).bind fun bt484 => ((impl_ScaleTempos.f k bt484.1 bt484.2).bind fun bt488 => ((spec_ScaleTempos.f k bt484.1 bt484.2).bind fun bt492 => ((spec_DrawEvenTempo.f k l1).bind fun bt496 => ((impl_EvenTempo.f k bt496.1 bt496.2.1 bt496.2.2).bind fun bt501 => ((spec_EvenTempo.f k bt496.1 bt496.2.1 bt496.2.2).bind fun bt503 => ((spec_DrawDropTempo.f k l1).bind fun bt505 => ((impl_DropTempo.f k bt505.1 bt505.2).bind fun bt509 => ((spec_DropTempo.f k bt505.1 bt505.2).bind fun bt513 => ((spec_DrawPaperSpeed.f k l1).bind fun bt517 => ((impl_PaperSpeed.f k bt517.1 bt517.2.1 bt517.2.2).bind fun bt522 => ((spec_PaperSpeed.f k bt517.1 bt517.2.1 bt517.2.2).bind fun bt525 => ((spec_DrawTempoAt.f k l1).bind fun bt528 => ((impl_TempoAt.f k bt528.1 bt528.2).bind fun bt532 => ((spec_TempoAt.f k bt528.1 bt528.2).bind fun bt534 => (if (bt476.2 != bt480.2) = true then (laws_FnTempoChanges.j0 k t473 bt476.1 bt476.2 bt480.1 bt484.1 bt484.2 bt488.2 bt492.1 bt496.1 bt496.2.1 bt496.2.2 bt501.2 bt503.1 bt505.1 bt505.2 bt509.1 bt509.2 bt517.1 bt517.2.1 bt517.2.2 bt522.2.2 bt525.1 bt525.2.1 true) else ((laws_qTempos.f k bt476.1 bt480.1).bind fun t536 => (if t536 = true then (if (bt488.2 != bt492.2) = true then (laws_FnTempoChanges.j0 k t473 bt476.1 bt476.2 bt480.1 bt484.1 bt484.2 bt488.2 bt492.1 bt496.1 bt496.2.1 bt496.2.2 bt501.2 bt503.1 bt505.1 bt505.2 bt509.1 bt509.2 bt517.1 bt517.2.1 bt517.2.2 bt522.2.2 bt525.1 bt525.2.1 true) else ((laws_qTempos.f k bt488.1 bt492.1).bind fun t537 => (if t537 = true then (if (bt501.2 != bt503.2) = true then (laws_FnTempoChanges.j0 k t473 bt476.1 bt476.2 bt480.1 bt484.1 bt484.2 bt488.2 bt492.1 bt496.1 bt496.2.1 bt496.2.2 bt501.2 bt503.1 bt505.1 bt505.2 bt509.1 bt509.2 bt517.1 bt517.2.1 bt517.2.2 bt522.2.2 bt525.1 bt525.2.1 true) else (if bt501.1 = bt503.1 then (if (bt509.2 != bt513.2) = true then (laws_FnTempoChanges.j0 k t473 bt476.1 bt476.2 bt480.1 bt484.1 bt484.2 bt488.2 bt492.1 bt496.1 bt496.2.1 bt496.2.2 bt501.2 bt503.1 bt505.1 bt505.2 bt509.1 bt509.2 bt517.1 bt517.2.1 bt517.2.2 bt522.2.2 bt525.1 bt525.2.1 true) else ((laws_qTempos.f k bt509.1 bt513.1).bind fun t538 => (if t538 = true then (if (bt522.2.2 != bt525.2.2) = true then (laws_FnTempoChanges.j0 k t473 bt476.1 bt476.2 bt480.1 bt484.1 bt484.2 bt488.2 bt492.1 bt496.1 bt496.2.1 bt496.2.2 bt501.2 bt503.1 bt505.1 bt505.2 bt509.1 bt509.2 bt517.1 bt517.2.1 bt517.2.2 bt522.2.2 bt525.1 bt525.2.1 true) else (if bt522.1 = bt525.1 then (if bt522.2.1 = bt525.2.1 then (if (bt532.2 != bt534.2) = true then (laws_FnTempoChanges.j0 k t473 bt476.1 bt476.2 bt480.1 bt484.1 bt484.2 bt488.2 bt492.1 bt496.1 bt496.2.1 bt496.2.2 bt501.2 bt503.1 bt505.1 bt505.2 bt509.1 bt509.2 bt517.1 bt517.2.1 bt517.2.2 bt522.2.2 bt525.1 bt525.2.1 true) else (if bt532.1 = bt534.1 then ((impl_AreTempos.f k t473).bind fun t539 => (laws_FnTempoChanges.j0 k t473 bt476.1 bt476.2 bt480.1 bt484.1 bt484.2 bt488.2 bt492.1 bt496.1 bt496.2.1 bt496.2.2 bt501.2 bt503.1 bt505.1 bt505.2 bt509.1 bt509.2 bt517.1 bt517.2.1 bt517.2.2 bt522.2.2 bt525.1 bt525.2.1 (t539 != bt476.2))) else (laws_FnTempoChanges.j0 k t473 bt476.1 bt476.2 bt480.1 bt484.1 bt484.2 bt488.2 bt492.1 bt496.1 bt496.2.1 bt496.2.2 bt501.2 bt503.1 bt505.1 bt505.2 bt509.1 bt509.2 bt517.1 bt517.2.1 bt517.2.2 bt522.2.2 bt525.1 bt525.2.1 true))) else (laws_FnTempoChanges.j0 k t473 bt476.1 bt476.2 bt480.1 bt484.1 bt484.2 bt488.2 bt492.1 bt496.1 bt496.2.1 bt496.2.2 bt501.2 bt503.1 bt505.1 bt505.2 bt509.1 bt509.2 bt517.1 bt517.2.1 bt517.2.2 bt522.2.2 bt525.1 bt525.2.1 true)) else (laws_FnTempoChanges.j0 k t473 bt476.1 bt476.2 bt480.1 bt484.1 bt484.2 bt488.2 bt492.1 bt496.1 bt496.2.1 bt496.2.2 bt501.2 bt503.1 bt505.1 bt505.2 bt509.1 bt509.2 bt517.1 bt517.2.1 bt517.2.2 bt522.2.2 bt525.1 bt525.2.1 true))) else (laws_FnTempoChanges.j0 k t473 bt476.1 bt476.2 bt480.1 bt484.1 bt484.2 bt488.2 bt492.1 bt496.1 bt496.2.1 bt496.2.2 bt501.2 bt503.1 bt505.1 bt505.2 bt509.1 bt509.2 bt517.1 bt517.2.1 bt517.2.2 bt522.2.2 bt525.1 bt525.2.1 true)))) else (laws_FnTempoChanges.j0 k t473 bt476.1 bt476.2 bt480.1 bt484.1 bt484.2 bt488.2 bt492.1 bt496.1 bt496.2.1 bt496.2.2 bt501.2 bt503.1 bt505.1 bt505.2 bt509.1 bt509.2 bt517.1 bt517.2.1 bt517.2.2 bt522.2.2 bt525.1 bt525.2.1 true))) else (laws_FnTempoChanges.j0 k t473 bt476.1 bt476.2 bt480.1 bt484.1 bt484.2 bt488.2 bt492.1 bt496.1 bt496.2.1 bt496.2.2 bt501.2 bt503.1 bt505.1 bt505.2 bt509.1 bt509.2 bt517.1 bt517.2.1 bt517.2.2 bt522.2.2 bt525.1 bt525.2.1 true)))) else (laws_FnTempoChanges.j0 k t473 bt476.1 bt476.2 bt480.1 bt484.1 bt484.2 bt488.2 bt492.1 bt496.1 bt496.2.1 bt496.2.2 bt501.2 bt503.1 bt505.1 bt505.2 bt509.1 bt509.2 bt517.1 bt517.2.1 bt517.2.2 bt522.2.2 bt525.1 bt525.2.1 true))))))))))))))))))))))
theorem laws_FnTempoChanges.mono_l : ∀ k, (∀ y0 y1 y2 y3 y4 y5 y6 y7 y8 y9 y10 y11 y12 y13 y14 y15 y16 y17 y18 y19 y20 y21 y22 y23, LeO (laws_FnTempoChanges.j0 k y0 y1 y2 y3 y4 y5 y6 y7 y8 y9 y10 y11 y12 y13 y14 y15 y16 y17 y18 y19 y20 y21 y22 y23) (laws_FnTempoChanges.j0 (k + 1) y0 y1 y2 y3 y4 y5 y6 y7 y8 y9 y10 y11 y12 y13 y14 y15 y16 y17 y18 y19 y20 y21 y22 y23)) ∧ (∀ y0 y1 y2 y3 y4 y5 y6 y7 y8 y9 y10 y11 y12 y13 y14 y15 y16 y17 y18 y19, LeO (laws_FnTempoChanges.j1 k y0 y1 y2 y3 y4 y5 y6 y7 y8 y9 y10 y11 y12 y13 y14 y15 y16 y17 y18 y19) (laws_FnTempoChanges.j1 (k + 1) y0 y1 y2 y3 y4 y5 y6 y7 y8 y9 y10 y11 y12 y13 y14 y15 y16 y17 y18 y19)) ∧ (∀ y0 y1 y2 y3 y4 y5 y6 y7 y8 y9 y10 y11 y12 y13, LeO (laws_FnTempoChanges.j2 k y0 y1 y2 y3 y4 y5 y6 y7 y8 y9 y10 y11 y12 y13) (laws_FnTempoChanges.j2 (k + 1) y0 y1 y2 y3 y4 y5 y6 y7 y8 y9 y10 y11 y12 y13)) ∧ (∀ y0 y1 y2 y3 y4 y5 y6 y7 y8 y9, LeO (laws_FnTempoChanges.j3 k y0 y1 y2 y3 y4 y5 y6 y7 y8 y9) (laws_FnTempoChanges.j3 (k + 1) y0 y1 y2 y3 y4 y5 y6 y7 y8 y9)) ∧ (∀ y0 y1 y2 y3, LeO (laws_FnTempoChanges.j4 k y0 y1 y2 y3) (laws_FnTempoChanges.j4 (k + 1) y0 y1 y2 y3)) ∧ (∀ y0 y1 y2 y3 y4 y5, LeO (laws_FnTempoChanges.l0 k y0 y1 y2 y3 y4 y5) (laws_FnTempoChanges.l0 (k + 1) y0 y1 y2 y3 y4 y5))
 | 0 => ⟨fun _ _ _ _ _ _ _ _ _ _ _ _ _ _ _ _ _ _ _ _ _ _ _ _ r h => by simp [laws_FnTempoChanges.j0] at h, fun _ _ _ _ _ _ _ _ _ _ _ _ _ _ _ _ _ _ _ _ r h => by simp [laws_FnTempoChanges.j1] at h, fun _ _ _ _ _ _ _ _ _ _ _ _ _ _ r h => by simp [laws_FnTempoChanges.j2] at h, fun _ _ _ _ _ _ _ _ _ _ r h => by simp [laws_FnTempoChanges.j3] at h, fun _ _ _ _ r h => by simp [laws_FnTempoChanges.j4] at h, fun _ _ _ _ _ _ r h => by simp [laws_FnTempoChanges.l0] at h⟩
 | k + 1 => by
  obtain ⟨ih0, ih1, ih2, ih3, ih4, ih5⟩ := laws_FnTempoChanges.mono_l k
  refine ⟨?_, ?_, ?_, ?_, ?_, ?_⟩
  ·intro y0 y1 y2 y3 y4 y5 y6 y7 y8 y9 y10 y11 y12 y13 y14 y15 y16 y17 y18 y19 y20 y21 y22 y23
   unfold laws_FnTempoChanges.j0
   repeat' first
   | (with_reducible exact ih0 _ _ _ _ _ _ _ _ _ _ _ _ _ _ _ _ _ _ _ _ _ _ _ _)
   | (with_reducible exact ih1 _ _ _ _ _ _ _ _ _ _ _ _ _ _ _ _ _ _ _ _)
   | (with_reducible exact ih2 _ _ _ _ _ _ _ _ _ _ _ _ _ _)
   | (with_reducible exact ih3 _ _ _ _ _ _ _ _ _ _)
   | (with_reducible exact ih4 _ _ _ _)
   | (with_reducible exact ih5 _ _ _ _ _ _)
   | (with_reducible exact impl_AddTempo.mono _ _ _ _)
   | (with_reducible exact impl_AreTempos.mono _ _)
   | (with_reducible exact impl_DropTempo.mono _ _ _)
   | (with_reducible exact impl_EvenTempo.mono _ _ _ _)
   | (with_reducible exact impl_PaperSpeed.mono _ _ _ _)
   | (with_reducible exact impl_ScaleTempos.mono _ _ _)
   | (with_reducible exact impl_SimpleTempos.mono _ _)
   | (with_reducible exact impl_TempoAt.mono _ _ _)
   | (with_reducible exact impl_TimeBetween.mono _ _ _ _)
   | (with_reducible exact impl_TimeOf.mono _ _ _)
   | (with_reducible exact laws_qTempos.mono _ _ _)
   | (with_reducible exact spec_DrawDropTempo.mono _ _)
   | (with_reducible exact spec_DrawEvenTempo.mono _ _)
   | (with_reducible exact spec_DrawPaperSpeed.mono _ _)
   | (with_reducible exact spec_DrawScaleTempos.mono _ _)
   | (with_reducible exact spec_DrawSimpleTempos.mono _ _)
   | (with_reducible exact spec_DrawTempoAt.mono _ _)
   | (with_reducible exact spec_DropTempo.mono _ _ _)
   | (with_reducible exact spec_EvenTempo.mono _ _ _ _)
   | (with_reducible exact spec_PaperSpeed.mono _ _ _ _)
   | (with_reducible exact spec_ScaleTempos.mono _ _ _)
   | (with_reducible exact spec_SimpleTempos.mono _ _)
   | (with_reducible exact spec_TempoAt.mono _ _ _)
   | (with_reducible exact spec_TimeOf.mono _ _ _)
   | (with_reducible exact LeO.refl _)
   | (with_reducible exact LeO.none _)
   | (with_reducible refine LeO.ite ?_ ?_)
   | (with_reducible refine LeO.bind ?_ (fun _ => ?_))
   | exact ih0 _ _ _ _ _ _ _ _ _ _ _ _ _ _ _ _ _ _ _ _ _ _ _ _
   | exact ih1 _ _ _ _ _ _ _ _ _ _ _ _ _ _ _ _ _ _ _ _
   | exact ih2 _ _ _ _ _ _ _ _ _ _ _ _ _ _
   | exact ih3 _ _ _ _ _ _ _ _ _ _
   | exact ih4 _ _ _ _
   | exact ih5 _ _ _ _ _ _
   | exact impl_AddTempo.mono _ _ _ _
   | exact impl_AreTempos.mono _ _
   | exact impl_DropTempo.mono _ _ _
   | exact impl_EvenTempo.mono _ _ _ _
   | exact impl_PaperSpeed.mono _ _ _ _
   | exact impl_ScaleTempos.mono _ _ _
   | exact impl_SimpleTempos.mono _ _
   | exact impl_TempoAt.mono _ _ _
   | exact impl_TimeBetween.mono _ _ _ _
   | exact impl_TimeOf.mono _ _ _
   | exact laws_qTempos.mono _ _ _
   | exact spec_DrawDropTempo.mono _ _
   | exact spec_DrawEvenTempo.mono _ _
   | exact spec_DrawPaperSpeed.mono _ _
   | exact spec_DrawScaleTempos.mono _ _
   | exact spec_DrawSimpleTempos.mono _ _
   | exact spec_DrawTempoAt.mono _ _
   | exact spec_DropTempo.mono _ _ _
   | exact spec_EvenTempo.mono _ _ _ _
   | exact spec_PaperSpeed.mono _ _ _ _
   | exact spec_ScaleTempos.mono _ _ _
   | exact spec_SimpleTempos.mono _ _
   | exact spec_TempoAt.mono _ _ _
   | exact spec_TimeOf.mono _ _ _
   | exact LeO.none _
   | refine LeO.ite ?_ ?_
   | refine LeO.bind ?_ (fun _ => ?_)
  ·intro y0 y1 y2 y3 y4 y5 y6 y7 y8 y9 y10 y11 y12 y13 y14 y15 y16 y17 y18 y19
   unfold laws_FnTempoChanges.j1
   repeat' first
   | (with_reducible exact ih0 _ _ _ _ _ _ _ _ _ _ _ _ _ _ _ _ _ _ _ _ _ _ _ _)
   | (with_reducible exact ih1 _ _ _ _ _ _ _ _ _ _ _ _ _ _ _ _ _ _ _ _)
   | (with_reducible exact ih2 _ _ _ _ _ _ _ _ _ _ _ _ _ _)
   | (with_reducible exact ih3 _ _ _ _ _ _ _ _ _ _)
   | (with_reducible exact ih4 _ _ _ _)
   | (with_reducible exact ih5 _ _ _ _ _ _)
   | (with_reducible exact impl_AddTempo.mono _ _ _ _)
   | (with_reducible exact impl_AreTempos.mono _ _)
   | (with_reducible exact impl_DropTempo.mono _ _ _)
   | (with_reducible exact impl_EvenTempo.mono _ _ _ _)
   | (with_reducible exact impl_PaperSpeed.mono _ _ _ _)
   | (with_reducible exact impl_ScaleTempos.mono _ _ _)
   | (with_reducible exact impl_SimpleTempos.mono _ _)
   | (with_reducible exact impl_TempoAt.mono _ _ _)
   | (with_reducible exact impl_TimeBetween.mono _ _ _ _)
   | (with_reducible exact impl_TimeOf.mono _ _ _)
   | (with_reducible exact laws_qTempos.mono _ _ _)
   | (with_reducible exact spec_DrawDropTempo.mono _ _)
   | (with_reducible exact spec_DrawEvenTempo.mono _ _)
   | (with_reducible exact spec_DrawPaperSpeed.mono _ _)
   | (with_reducible exact spec_DrawScaleTempos.mono _ _)
   | (with_reducible exact spec_DrawSimpleTempos.mono _ _)
   | (with_reducible exact spec_DrawTempoAt.mono _ _)
   | (with_reducible exact spec_DropTempo.mono _ _ _)
   | (with_reducible exact spec_EvenTempo.mono _ _ _ _)
   | (with_reducible exact spec_PaperSpeed.mono _ _ _ _)
   | (with_reducible exact spec_ScaleTempos.mono _ _ _)
   | (with_reducible exact spec_SimpleTempos.mono _ _)
   | (with_reducible exact spec_TempoAt.mono _ _ _)
   | (with_reducible exact spec_TimeOf.mono _ _ _)
   | (with_reducible exact LeO.refl _)
   | (with_reducible exact LeO.none _)
   | (with_reducible refine LeO.ite ?_ ?_)
   | (with_reducible refine LeO.bind ?_ (fun _ => ?_))
   | exact ih0 _ _ _ _ _ _ _ _ _ _ _ _ _ _ _ _ _ _ _ _ _ _ _ _
   | exact ih1 _ _ _ _ _ _ _ _ _ _ _ _ _ _ _ _ _ _ _ _
   | exact ih2 _ _ _ _ _ _ _ _ _ _ _ _ _ _
   | exact ih3 _ _ _ _ _ _ _ _ _ _
   | exact ih4 _ _ _ _
   | exact ih5 _ _ _ _ _ _
   | exact impl_AddTempo.mono _ _ _ _
   | exact impl_AreTempos.mono _ _
   | exact impl_DropTempo.mono _ _ _
   | exact impl_EvenTempo.mono _ _ _ _
   | exact impl_PaperSpeed.mono _ _ _ _
   | exact impl_ScaleTempos.mono _ _ _
   | exact impl_SimpleTempos.mono _ _
   | exact impl_TempoAt.mono _ _ _
   | exact impl_TimeBetween.mono _ _ _ _
   | exact impl_TimeOf.mono _ _ _
   | exact laws_qTempos.mono _ _ _
   | exact spec_DrawDropTempo.mono _ _
   | exact spec_DrawEvenTempo.mono _ _
   | exact spec_DrawPaperSpeed.mono _ _
   | exact spec_DrawScaleTempos.mono _ _
   | exact spec_DrawSimpleTempos.mono _ _
   | exact spec_DrawTempoAt.mono _ _
   | exact spec_DropTempo.mono _ _ _
   | exact spec_EvenTempo.mono _ _ _ _
   | exact spec_PaperSpeed.mono _ _ _ _
   | exact spec_ScaleTempos.mono _ _ _
   | exact spec_SimpleTempos.mono _ _
   | exact spec_TempoAt.mono _ _ _
   | exact spec_TimeOf.mono _ _ _
   | exact LeO.none _
   | refine LeO.ite ?_ ?_
   | refine LeO.bind ?_ (fun _ => ?_)
  ·intro y0 y1 y2 y3 y4 y5 y6 y7 y8 y9 y10 y11 y12 y13
   unfold laws_FnTempoChanges.j2
   repeat' first
   | (with_reducible exact ih0 _ _ _ _ _ _ _ _ _ _ _ _ _ _ _ _ _ _ _ _ _ _ _ _)
   | (with_reducible exact ih1 _ _ _ _ _ _ _ _ _ _ _ _ _ _ _ _ _ _ _ _)
   | (with_reducible exact ih2 _ _ _ _ _ _ _ _ _ _ _ _ _ _)
   | (with_reducible exact ih3 _ _ _ _ _ _ _ _ _ _)
   | (with_reducible exact ih4 _ _ _ _)
   | (with_reducible exact ih5 _ _ _ _ _ _)
   | (with_reducible exact impl_AddTempo.mono _ _ _ _)
   | (with_reducible exact impl_AreTempos.mono _ _)
   | (with_reducible exact impl_DropTempo.mono _ _ _)
   | (with_reducible exact impl_EvenTempo.mono _ _ _ _)
   | (with_reducible exact impl_PaperSpeed.mono _ _ _ _)
   | (with_reducible exact impl_ScaleTempos.mono _ _ _)
   | (with_reducible exact impl_SimpleTempos.mono _ _)
   | (with_reducible exact impl_TempoAt.mono _ _ _)
   | (with_reducible exact impl_TimeBetween.mono _ _ _ _)
   | (with_reducible exact impl_TimeOf.mono _ _ _)
   | (with_reducible exact laws_qTempos.mono _ _ _)
   | (with_reducible exact spec_DrawDropTempo.mono _ _)
   | (with_reducible exact spec_DrawEvenTempo.mono _ _)
   | (with_reducible exact spec_DrawPaperSpeed.mono _ _)
   | (with_reducible exact spec_DrawScaleTempos.mono _ _)
   | (with_reducible exact spec_DrawSimpleTempos.mono _ _)
   | (with_reducible exact spec_DrawTempoAt.mono _ _)
   | (with_reducible exact spec_DropTempo.mono _ _ _)
   | (with_reducible exact spec_EvenTempo.mono _ _ _ _)
   | (with_reducible exact spec_PaperSpeed.mono _ _ _ _)
   | (with_reducible exact spec_ScaleTempos.mono _ _ _)
   | (with_reducible exact spec_SimpleTempos.mono _ _)
   | (with_reducible exact spec_TempoAt.mono _ _ _)
   | (with_reducible exact spec_TimeOf.mono _ _ _)
   | (with_reducible exact LeO.refl _)
   | (with_reducible exact LeO.none _)
   | (with_reducible refine LeO.ite ?_ ?_)
   | (with_reducible refine LeO.bind ?_ (fun _ => ?_))
   | exact ih0 _ _ _ _ _ _ _ _ _ _ _ _ _ _ _ _ _ _ _ _ _ _ _ _
   | exact ih1 _ _ _ _ _ _ _ _ _ _ _ _ _ _ _ _ _ _ _ _
   | exact ih2 _ _ _ _ _ _ _ _ _ _ _ _ _ _
   | exact ih3 _ _ _ _ _ _ _ _ _ _
   | exact ih4 _ _ _ _
   | exact ih5 _ _ _ _ _ _
   | exact impl_AddTempo.mono _ _ _ _
   | exact impl_AreTempos.mono _ _
   | exact impl_DropTempo.mono _ _ _
   | exact impl_EvenTempo.mono _ _ _ _
   | exact impl_PaperSpeed.mono _ _ _ _
   | exact impl_ScaleTempos.mono _ _ _
   | exact impl_SimpleTempos.mono _ _
   | exact impl_TempoAt.mono _ _ _
   | exact impl_TimeBetween.mono _ _ _ _
   | exact impl_TimeOf.mono _ _ _
   | exact laws_qTempos.mono _ _ _
   | exact spec_DrawDropTempo.mono _ _
   | exact spec_DrawEvenTempo.mono _ _
   | exact spec_DrawPaperSpeed.mono _ _
   | exact spec_DrawScaleTempos.mono _ _
   | exact spec_DrawSimpleTempos.mono _ _
   | exact spec_DrawTempoAt.mono _ _
   | exact spec_DropTempo.mono _ _ _
   | exact spec_EvenTempo.mono _ _ _ _
   | exact spec_PaperSpeed.mono _ _ _ _
   | exact spec_ScaleTempos.mono _ _ _
   | exact spec_SimpleTempos.mono _ _
   | exact spec_TempoAt.mono _ _ _
   | exact spec_TimeOf.mono _ _ _
   | exact LeO.none _
   | refine LeO.ite ?_ ?_
   | refine LeO.bind ?_ (fun _ => ?_)
  ·intro y0 y1 y2 y3 y4 y5 y6 y7 y8 y9
   unfold laws_FnTempoChanges.j3
   repeat' first
   | (with_reducible exact ih0 _ _ _ _ _ _ _ _ _ _ _ _ _ _ _ _ _ _ _ _ _ _ _ _)
   | (with_reducible exact ih1 _ _ _ _ _ _ _ _ _ _ _ _ _ _ _ _ _ _ _ _)
   | (with_reducible exact ih2 _ _ _ _ _ _ _ _ _ _ _ _ _ _)
   | (with_reducible exact ih3 _ _ _ _ _ _ _ _ _ _)
   | (with_reducible exact ih4 _ _ _ _)
   | (with_reducible exact ih5 _ _ _ _ _ _)
   | (with_reducible exact impl_AddTempo.mono _ _ _ _)
   | (with_reducible exact impl_AreTempos.mono _ _)
   | (with_reducible exact impl_DropTempo.mono _ _ _)
   | (with_reducible exact impl_EvenTempo.mono _ _ _ _)
   | (with_reducible exact impl_PaperSpeed.mono _ _ _ _)
   | (with_reducible exact impl_ScaleTempos.mono _ _ _)
   | (with_reducible exact impl_SimpleTempos.mono _ _)
   | (with_reducible exact impl_TempoAt.mono _ _ _)
   | (with_reducible exact impl_TimeBetween.mono _ _ _ _)
   | (with_reducible exact impl_TimeOf.mono _ _ _)
   | (with_reducible exact laws_qTempos.mono _ _ _)
   | (with_reducible exact spec_DrawDropTempo.mono _ _)
   | (with_reducible exact spec_DrawEvenTempo.mono _ _)
   | (with_reducible exact spec_DrawPaperSpeed.mono _ _)
   | (with_reducible exact spec_DrawScaleTempos.mono _ _)
   | (with_reducible exact spec_DrawSimpleTempos.mono _ _)
   | (with_reducible exact spec_DrawTempoAt.mono _ _)
   | (with_reducible exact spec_DropTempo.mono _ _ _)
   | (with_reducible exact spec_EvenTempo.mono _ _ _ _)
   | (with_reducible exact spec_PaperSpeed.mono _ _ _ _)
   | (with_reducible exact spec_ScaleTempos.mono _ _ _)
   | (with_reducible exact spec_SimpleTempos.mono _ _)
   | (with_reducible exact spec_TempoAt.mono _ _ _)
   | (with_reducible exact spec_TimeOf.mono _ _ _)
   | (with_reducible exact LeO.refl _)
   | (with_reducible exact LeO.none _)
   | (with_reducible refine LeO.ite ?_ ?_)
   | (with_reducible refine LeO.bind ?_ (fun _ => ?_))
   | exact ih0 _ _ _ _ _ _ _ _ _ _ _ _ _ _ _ _ _ _ _ _ _ _ _ _
   | exact ih1 _ _ _ _ _ _ _ _ _ _ _ _ _ _ _ _ _ _ _ _
   | exact ih2 _ _ _ _ _ _ _ _ _ _ _ _ _ _
   | exact ih3 _ _ _ _ _ _ _ _ _ _
   | exact ih4 _ _ _ _
   | exact ih5 _ _ _ _ _ _
   | exact impl_AddTempo.mono _ _ _ _
   | exact impl_AreTempos.mono _ _
   | exact impl_DropTempo.mono _ _ _
   | exact impl_EvenTempo.mono _ _ _ _
   | exact impl_PaperSpeed.mono _ _ _ _
   | exact impl_ScaleTempos.mono _ _ _
   | exact impl_SimpleTempos.mono _ _
   | exact impl_TempoAt.mono _ _ _
   | exact impl_TimeBetween.mono _ _ _ _
   | exact impl_TimeOf.mono _ _ _
   | exact laws_qTempos.mono _ _ _
   | exact spec_DrawDropTempo.mono _ _
   | exact spec_DrawEvenTempo.mono _ _
   | exact spec_DrawPaperSpeed.mono _ _
   | exact spec_DrawScaleTempos.mono _ _
   | exact spec_DrawSimpleTempos.mono _ _
   | exact spec_DrawTempoAt.mono _ _
   | exact spec_DropTempo.mono _ _ _
   | exact spec_EvenTempo.mono _ _ _ _
   | exact spec_PaperSpeed.mono _ _ _ _
   | exact spec_ScaleTempos.mono _ _ _
   | exact spec_SimpleTempos.mono _ _
   | exact spec_TempoAt.mono _ _ _
   | exact spec_TimeOf.mono _ _ _
   | exact LeO.none _
   | refine LeO.ite ?_ ?_
   | refine LeO.bind ?_ (fun _ => ?_)
  ·intro y0 y1 y2 y3
   unfold laws_FnTempoChanges.j4
   repeat' first
   | (with_reducible exact ih0 _ _ _ _ _ _ _ _ _ _ _ _ _ _ _ _ _ _ _ _ _ _ _ _)
   | (with_reducible exact ih1 _ _ _ _ _ _ _ _ _ _ _ _ _ _ _ _ _ _ _ _)
   | (with_reducible exact ih2 _ _ _ _ _ _ _ _ _ _ _ _ _ _)
   | (with_reducible exact ih3 _ _ _ _ _ _ _ _ _ _)
   | (with_reducible exact ih4 _ _ _ _)
   | (with_reducible exact ih5 _ _ _ _ _ _)
   | (with_reducible exact impl_AddTempo.mono _ _ _ _)
   | (with_reducible exact impl_AreTempos.mono _ _)
   | (with_reducible exact impl_DropTempo.mono _ _ _)
   | (with_reducible exact impl_EvenTempo.mono _ _ _ _)
   | (with_reducible exact impl_PaperSpeed.mono _ _ _ _)
   | (with_reducible exact impl_ScaleTempos.mono _ _ _)
   | (with_reducible exact impl_SimpleTempos.mono _ _)
   | (with_reducible exact impl_TempoAt.mono _ _ _)
   | (with_reducible exact impl_TimeBetween.mono _ _ _ _)
   | (with_reducible exact impl_TimeOf.mono _ _ _)
   | (with_reducible exact laws_qTempos.mono _ _ _)
   | (with_reducible exact spec_DrawDropTempo.mono _ _)
   | (with_reducible exact spec_DrawEvenTempo.mono _ _)
   | (with_reducible exact spec_DrawPaperSpeed.mono _ _)
   | (with_reducible exact spec_DrawScaleTempos.mono _ _)
   | (with_reducible exact spec_DrawSimpleTempos.mono _ _)
   | (with_reducible exact spec_DrawTempoAt.mono _ _)
   | (with_reducible exact spec_DropTempo.mono _ _ _)
   | (with_reducible exact spec_EvenTempo.mono _ _ _ _)
   | (with_reducible exact spec_PaperSpeed.mono _ _ _ _)
   | (with_reducible exact spec_ScaleTempos.mono _ _ _)
   | (with_reducible exact spec_SimpleTempos.mono _ _)
   | (with_reducible exact spec_TempoAt.mono _ _ _)
   | (with_reducible exact spec_TimeOf.mono _ _ _)
   | (with_reducible exact LeO.refl _)
   | (with_reducible exact LeO.none _)
   | (with_reducible refine LeO.ite ?_ ?_)
   | (with_reducible refine LeO.bind ?_ (fun _ => ?_))
   | exact ih0 _ _ _ _ _ _ _ _ _ _ _ _ _ _ _ _ _ _ _ _ _ _ _ _
   | exact ih1 _ _ _ _ _ _ _ _ _ _ _ _ _ _ _ _ _ _ _ _
   | exact ih2 _ _ _ _ _ _ _ _ _ _ _ _ _ _
   | exact ih3 _ _ _ _ _ _ _ _ _ _
   | exact ih4 _ _ _ _
   | exact ih5 _ _ _ _ _ _
   | exact impl_AddTempo.mono _ _ _ _
   | exact impl_AreTempos.mono _ _
   | exact impl_DropTempo.mono _ _ _
   | exact impl_EvenTempo.mono _ _ _ _
   | exact impl_PaperSpeed.mono _ _ _ _
   | exact impl_ScaleTempos.mono _ _ _
   | exact impl_SimpleTempos.mono _ _
   | exact impl_TempoAt.mono _ _ _
   | exact impl_TimeBetween.mono _ _ _ _
   | exact impl_TimeOf.mono _ _ _
   | exact laws_qTempos.mono _ _ _
   | exact spec_DrawDropTempo.mono _ _
   | exact spec_DrawEvenTempo.mono _ _
   | exact spec_DrawPaperSpeed.mono _ _
   | exact spec_DrawScaleTempos.mono _ _
   | exact spec_DrawSimpleTempos.mono _ _
   | exact spec_DrawTempoAt.mono _ _
   | exact spec_DropTempo.mono _ _ _
   | exact spec_EvenTempo.mono _ _ _ _
   | exact spec_PaperSpeed.mono _ _ _ _
   | exact spec_ScaleTempos.mono _ _ _
   | exact spec_SimpleTempos.mono _ _
   | exact spec_TempoAt.mono _ _ _
   | exact spec_TimeOf.mono _ _ _
   | exact LeO.none _
   | refine LeO.ite ?_ ?_
   | refine LeO.bind ?_ (fun _ => ?_)
  ·intro y0 y1 y2 y3 y4 y5
   unfold laws_FnTempoChanges.l0
   repeat' first
   | (with_reducible exact ih0 _ _ _ _ _ _ _ _ _ _ _ _ _ _ _ _ _ _ _ _ _ _ _ _)
   | (with_reducible exact ih1 _ _ _ _ _ _ _ _ _ _ _ _ _ _ _ _ _ _ _ _)
   | (with_reducible exact ih2 _ _ _ _ _ _ _ _ _ _ _ _ _ _)
   | (with_reducible exact ih3 _ _ _ _ _ _ _ _ _ _)
   | (with_reducible exact ih4 _ _ _ _)
   | (with_reducible exact ih5 _ _ _ _ _ _)
   | (with_reducible exact impl_AddTempo.mono _ _ _ _)
   | (with_reducible exact impl_AreTempos.mono _ _)
   | (with_reducible exact impl_DropTempo.mono _ _ _)
   | (with_reducible exact impl_EvenTempo.mono _ _ _ _)
   | (with_reducible exact impl_PaperSpeed.mono _ _ _ _)
   | (with_reducible exact impl_ScaleTempos.mono _ _ _)
   | (with_reducible exact impl_SimpleTempos.mono _ _)
   | (with_reducible exact impl_TempoAt.mono _ _ _)
   | (with_reducible exact impl_TimeBetween.mono _ _ _ _)
   | (with_reducible exact impl_TimeOf.mono _ _ _)
   | (with_reducible exact laws_qTempos.mono _ _ _)
   | (with_reducible exact spec_DrawDropTempo.mono _ _)
   | (with_reducible exact spec_DrawEvenTempo.mono _ _)
   | (with_reducible exact spec_DrawPaperSpeed.mono _ _)
   | (with_reducible exact spec_DrawScaleTempos.mono _ _)
   | (with_reducible exact spec_DrawSimpleTempos.mono _ _)
   | (with_reducible exact spec_DrawTempoAt.mono _ _)
   | (with_reducible exact spec_DropTempo.mono _ _ _)
   | (with_reducible exact spec_EvenTempo.mono _ _ _ _)
   | (with_reducible exact spec_PaperSpeed.mono _ _ _ _)
   | (with_reducible exact spec_ScaleTempos.mono _ _ _)
   | (with_reducible exact spec_SimpleTempos.mono _ _)
   | (with_reducible exact spec_TempoAt.mono _ _ _)
   | (with_reducible exact spec_TimeOf.mono _ _ _)
   | (with_reducible exact LeO.refl _)
   | (with_reducible exact LeO.none _)
   | (with_reducible refine LeO.ite ?_ ?_)
   | (with_reducible refine LeO.bind ?_ (fun _ => ?_))
   | exact ih0 _ _ _ _ _ _ _ _ _ _ _ _ _ _ _ _ _ _ _ _ _ _ _ _
   | exact ih1 _ _ _ _ _ _ _ _ _ _ _ _ _ _ _ _ _ _ _ _
   | exact ih2 _ _ _ _ _ _ _ _ _ _ _ _ _ _
   | exact ih3 _ _ _ _ _ _ _ _ _ _
   | exact ih4 _ _ _ _
   | exact ih5 _ _ _ _ _ _
   | exact impl_AddTempo.mono _ _ _ _
   | exact impl_AreTempos.mono _ _
   | exact impl_DropTempo.mono _ _ _
   | exact impl_EvenTempo.mono _ _ _ _
   | exact impl_PaperSpeed.mono _ _ _ _
   | exact impl_ScaleTempos.mono _ _ _
   | exact impl_SimpleTempos.mono _ _
   | exact impl_TempoAt.mono _ _ _
   | exact impl_TimeBetween.mono _ _ _ _
   | exact impl_TimeOf.mono _ _ _
   | exact laws_qTempos.mono _ _ _
   | exact spec_DrawDropTempo.mono _ _
   | exact spec_DrawEvenTempo.mono _ _
   | exact spec_DrawPaperSpeed.mono _ _
   | exact spec_DrawScaleTempos.mono _ _
   | exact spec_DrawSimpleTempos.mono _ _
   | exact spec_DrawTempoAt.mono _ _
   | exact spec_DropTempo.mono _ _ _
   | exact spec_EvenTempo.mono _ _ _ _
   | exact spec_PaperSpeed.mono _ _ _ _
   | exact spec_ScaleTempos.mono _ _ _
   | exact spec_SimpleTempos.mono _ _
   | exact spec_TempoAt.mono _ _ _
   | exact spec_TimeOf.mono _ _ _
   | exact LeO.none _
   | refine LeO.ite ?_ ?_
   | refine LeO.bind ?_ (fun _ => ?_)
theorem laws_FnTempoChanges.mono : ∀ a0 a1 k, LeO (laws_FnTempoChanges.f k a0 a1) (laws_FnTempoChanges.f (k + 1) a0 a1) := by
 intro a0 a1 k
 obtain ⟨ih0, ih1, ih2, ih3, ih4, ih5⟩ := laws_FnTempoChanges.mono_l k
 unfold laws_FnTempoChanges.f
 repeat' first
   | (with_reducible exact ih0 _ _ _ _ _ _ _ _ _ _ _ _ _ _ _ _ _ _ _ _ _ _ _ _)
   | (with_reducible exact ih1 _ _ _ _ _ _ _ _ _ _ _ _ _ _ _ _ _ _ _ _)
   | (with_reducible exact ih2 _ _ _ _ _ _ _ _ _ _ _ _ _ _)
   | (with_reducible exact ih3 _ _ _ _ _ _ _ _ _ _)
   | (with_reducible exact ih4 _ _ _ _)
   | (with_reducible exact ih5 _ _ _ _ _ _)
   | (with_reducible exact impl_AddTempo.mono _ _ _ _)
   | (with_reducible exact impl_AreTempos.mono _ _)
   | (with_reducible exact impl_DropTempo.mono _ _ _)
   | (with_reducible exact impl_EvenTempo.mono _ _ _ _)
   | (with_reducible exact impl_PaperSpeed.mono _ _ _ _)
   | (with_reducible exact impl_ScaleTempos.mono _ _ _)
   | (with_reducible exact impl_SimpleTempos.mono _ _)
   | (with_reducible exact impl_TempoAt.mono _ _ _)
   | (with_reducible exact impl_TimeBetween.mono _ _ _ _)
   | (with_reducible exact impl_TimeOf.mono _ _ _)
   | (with_reducible exact laws_qTempos.mono _ _ _)
   | (with_reducible exact spec_DrawDropTempo.mono _ _)
   | (with_reducible exact spec_DrawEvenTempo.mono _ _)
   | (with_reducible exact spec_DrawPaperSpeed.mono _ _)
   | (with_reducible exact spec_DrawScaleTempos.mono _ _)
   | (with_reducible exact spec_DrawSimpleTempos.mono _ _)
   | (with_reducible exact spec_DrawTempoAt.mono _ _)
   | (with_reducible exact spec_DropTempo.mono _ _ _)
   | (with_reducible exact spec_EvenTempo.mono _ _ _ _)
   | (with_reducible exact spec_PaperSpeed.mono _ _ _ _)
   | (with_reducible exact spec_ScaleTempos.mono _ _ _)
   | (with_reducible exact spec_SimpleTempos.mono _ _)
   | (with_reducible exact spec_TempoAt.mono _ _ _)
   | (with_reducible exact spec_TimeOf.mono _ _ _)
   | (with_reducible exact LeO.refl _)
   | (with_reducible exact LeO.none _)
   | (with_reducible refine LeO.ite ?_ ?_)
   | (with_reducible refine LeO.bind ?_ (fun _ => ?_))
   | exact ih0 _ _ _ _ _ _ _ _ _ _ _ _ _ _ _ _ _ _ _ _ _ _ _ _
   | exact ih1 _ _ _ _ _ _ _ _ _ _ _ _ _ _ _ _ _ _ _ _
   | exact ih2 _ _ _ _ _ _ _ _ _ _ _ _ _ _
   | exact ih3 _ _ _ _ _ _ _ _ _ _
   | exact ih4 _ _ _ _
   | exact ih5 _ _ _ _ _ _
   | exact impl_AddTempo.mono _ _ _ _
   | exact impl_AreTempos.mono _ _
   | exact impl_DropTempo.mono _ _ _
   | exact impl_EvenTempo.mono _ _ _ _
   | exact impl_PaperSpeed.mono _ _ _ _
   | exact impl_ScaleTempos.mono _ _ _
   | exact impl_SimpleTempos.mono _ _
   | exact impl_TempoAt.mono _ _ _
   | exact impl_TimeBetween.mono _ _ _ _
   | exact impl_TimeOf.mono _ _ _
   | exact laws_qTempos.mono _ _ _
   | exact spec_DrawDropTempo.mono _ _
   | exact spec_DrawEvenTempo.mono _ _
   | exact spec_DrawPaperSpeed.mono _ _
   | exact spec_DrawScaleTempos.mono _ _
   | exact spec_DrawSimpleTempos.mono _ _
   | exact spec_DrawTempoAt.mono _ _
   | exact spec_DropTempo.mono _ _ _
   | exact spec_EvenTempo.mono _ _ _ _
   | exact spec_PaperSpeed.mono _ _ _ _
   | exact spec_ScaleTempos.mono _ _ _
   | exact spec_SimpleTempos.mono _ _
   | exact spec_TempoAt.mono _ _ _
   | exact spec_TimeOf.mono _ _ _
   | exact LeO.none _
   | refine LeO.ite ?_ ?_
   | refine LeO.bind ?_ (fun _ => ?_)
private theorem df_ {r : Bool} (h : r = true) (H : some false = some r) : False := by subst h; cases H
private theorem laws_FnTempoChanges_j0_df {r : Bool} {k : Nat} {x0 : List (S41)} {x1 : List (S41)} {x2 : Bool} {x3 : List (S41)} {x4 : List (S41)} {x5 : Int} {x6 : Bool} {x7 : List (S41)} {x8 : List (S41)} {x9 : Int} {x10 : Int} {x11 : Bool} {x12 : Int} {x13 : List (S41)} {x14 : Int} {x15 : List (S41)} {x16 : Bool} {x17 : List (S41)} {x18 : Int} {x19 : Int} {x20 : Bool} {x21 : Int} {x22 : Int} (h : r = true) (H : laws_FnTempoChanges.j0 k x0 x1 x2 x3 x4 x5 x6 x7 x8 x9 x10 x11 x12 x13 x14 x15 x16 x17 x18 x19 x20 x21 x22 true = some r) : False := by
 subst h
 cases k <;> simp [laws_FnTempoChanges.j0] at H
set_option maxHeartbeats 80000000 in
set_option maxRecDepth 100000 in
theorem laws_FnTempoChanges.calls (k : Nat) (A0 : Option Addr) (c0 : Nat) (l0 : List Int) (A1 : Option Addr) (c1 : Nat) (l1 : List Int) (r : Bool) (w : World) (hrt_ : r = true) (hr0 : Kd.C (Kd.int .u8) w A0 l0.length l0) (hc0 : l0.length ≤ c0) (hr1 : Kd.C (Kd.int .u8) w A1 l1.length l1) (hc1 : l1.length ≤ c1) (h : laws_FnTempoChanges.f k l0 l1 = some r) :
  Calls Try.prog 3 #[.slice A0 l0.length c0, .slice A1 l1.length c1] w fun e w' => e = .returned (.bool r) ∧ Below w.heap.size w w' := by
 have hu41 := Try.underlying41
 have HR0 := M_ hr0
 have HC0 := M_ hc0
 clear hr0 hc0
 have HR1 := M_ hr1
 have HC1 := M_ hc1
 clear hr1 hc1
 have HB := M_ (Below.refl w.heap.size w)
 have H : (if (wrap64 ((l0.length : Int) + (l1.length : Int))) > 1048576 then (some true) else ((spec_DrawSimpleTempos.f k l0).bind fun t473 => ((impl_SimpleTempos.f k t473).bind fun bt476 => ((spec_SimpleTempos.f k t473).bind fun bt480 => ((spec_DrawScaleTempos.f k l1).bind fun bt484 => ((impl_ScaleTempos.f k bt484.1 bt484.2).bind fun bt488 => ((spec_ScaleTempos.f k bt484.1 bt484.2).bind fun bt492 => ((spec_DrawEvenTempo.f k l1).bind fun bt496 => ((impl_EvenTempo.f k bt496.1 bt496.2.1 bt496.2.2).bind fun bt501 => ((spec_EvenTempo.f k bt496.1 bt496.2.1 bt496.2.2).bind fun bt503 => ((spec_DrawDropTempo.f k l1).bind fun bt505 => ((impl_DropTempo.f k bt505.1 bt505.2).bind fun bt509 => ((spec_DropTempo.f k bt505.1 bt505.2).bind fun bt513 => ((spec_DrawPaperSpeed.f k l1).bind fun bt517 => ((impl_PaperSpeed.f k bt517.1 bt517.2.1 bt517.2.2).bind fun bt522 => ((spec_PaperSpeed.f k bt517.1 bt517.2.1 bt517.2.2).bind fun bt525 => ((spec_DrawTempoAt.f k l1).bind fun bt528 => ((impl_TempoAt.f k bt528.1 bt528.2).bind fun bt532 => ((spec_TempoAt.f k bt528.1 bt528.2).bind fun bt534 => (if (bt476.2 != bt480.2) = true then (laws_FnTempoChanges.j0 k t473 bt476.1 bt476.2 bt480.1 bt484.1 bt484.2 bt488.2 bt492.1 bt496.1 bt496.2.1 bt496.2.2 bt501.2 bt503.1 bt505.1 bt505.2 bt509.1 bt509.2 bt517.1 bt517.2.1 bt517.2.2 bt522.2.2 bt525.1 bt525.2.1 true) else ((laws_qTempos.f k bt476.1 bt480.1).bind fun t536 => (if t536 = true then (if (bt488.2 != bt492.2) = true then (laws_FnTempoChanges.j0 k t473 bt476.1 bt476.2 bt480.1 bt484.1 bt484.2 bt488.2 bt492.1 bt496.1 bt496.2.1 bt496.2.2 bt501.2 bt503.1 bt505.1 bt505.2 bt509.1 bt509.2 bt517.1 bt517.2.1 bt517.2.2 bt522.2.2 bt525.1 bt525.2.1 true) else ((laws_qTempos.f k bt488.1 bt492.1).bind fun t537 => (if t537 = true then (if (bt501.2 != bt503.2) = true then (laws_FnTempoChanges.j0 k t473 bt476.1 bt476.2 bt480.1 bt484.1 bt484.2 bt488.2 bt492.1 bt496.1 bt496.2.1 bt496.2.2 bt501.2 bt503.1 bt505.1 bt505.2 bt509.1 bt509.2 bt517.1 bt517.2.1 bt517.2.2 bt522.2.2 bt525.1 bt525.2.1 true) else (if bt501.1 = bt503.1 then (if (bt509.2 != bt513.2) = true then (laws_FnTempoChanges.j0 k t473 bt476.1 bt476.2 bt480.1 bt484.1 bt484.2 bt488.2 bt492.1 bt496.1 bt496.2.1 bt496.2.2 bt501.2 bt503.1 bt505.1 bt505.2 bt509.1 bt509.2 bt517.1 bt517.2.1 bt517.2.2 bt522.2.2 bt525.1 bt525.2.1 true) else ((laws_qTempos.f k bt509.1 bt513.1).bind fun t538 => (if t538 = true then (if (bt522.2.2 != bt525.2.2) = true then (laws_FnTempoChanges.j0 k t473 bt476.1 bt476.2 bt480.1 bt484.1 bt484.2 bt488.2 bt492.1 bt496.1 bt496.2.1 bt496.2.2 bt501.2 bt503.1 bt505.1 bt505.2 bt509.1 bt509.2 bt517.1 bt517.2.1 bt517.2.2 bt522.2.2 bt525.1 bt525.2.1 true) else (if bt522.1 = bt525.1 then (if bt522.2.1 = bt525.2.1 then (if (bt532.2 != bt534.2) = true then (laws_FnTempoChanges.j0 k t473 bt476.1 bt476.2 bt480.1 bt484.1 bt484.2 bt488.2 bt492.1 bt496.1 bt496.2.1 bt496.2.2 bt501.2 bt503.1 bt505.1 bt505.2 bt509.1 bt509.2 bt517.1 bt517.2.1 bt517.2.2 bt522.2.2 bt525.1 bt525.2.1 true) else (if bt532.1 = bt534.1 then ((impl_AreTempos.f k t473).bind fun t539 => (laws_FnTempoChanges.j0 k t473 bt476.1 bt476.2 bt480.1 bt484.1 bt484.2 bt488.2 bt492.1 bt496.1 bt496.2.1 bt496.2.2 bt501.2 bt503.1 bt505.1 bt505.2 bt509.1 bt509.2 bt517.1 bt517.2.1 bt517.2.2 bt522.2.2 bt525.1 bt525.2.1 (t539 != bt476.2))) else (laws_FnTempoChanges.j0 k t473 bt476.1 bt476.2 bt480.1 bt484.1 bt484.2 bt488.2 bt492.1 bt496.1 bt496.2.1 bt496.2.2 bt501.2 bt503.1 bt505.1 bt505.2 bt509.1 bt509.2 bt517.1 bt517.2.1 bt517.2.2 bt522.2.2 bt525.1 bt525.2.1 true))) else (laws_FnTempoChanges.j0 k t473 bt476.1 bt476.2 bt480.1 bt484.1 bt484.2 bt488.2 bt492.1 bt496.1 bt496.2.1 bt496.2.2 bt501.2 bt503.1 bt505.1 bt505.2 bt509.1 bt509.2 bt517.1 bt517.2.1 bt517.2.2 bt522.2.2 bt525.1 bt525.2.1 true)) else (laws_FnTempoChanges.j0 k t473 bt476.1 bt476.2 bt480.1 bt484.1 bt484.2 bt488.2 bt492.1 bt496.1 bt496.2.1 bt496.2.2 bt501.2 bt503.1 bt505.1 bt505.2 bt509.1 bt509.2 bt517.1 bt517.2.1 bt517.2.2 bt522.2.2 bt525.1 bt525.2.1 true))) else (laws_FnTempoChanges.j0 k t473 bt476.1 bt476.2 bt480.1 bt484.1 bt484.2 bt488.2 bt492.1 bt496.1 bt496.2.1 bt496.2.2 bt501.2 bt503.1 bt505.1 bt505.2 bt509.1 bt509.2 bt517.1 bt517.2.1 bt517.2.2 bt522.2.2 bt525.1 bt525.2.1 true)))) else (laws_FnTempoChanges.j0 k t473 bt476.1 bt476.2 bt480.1 bt484.1 bt484.2 bt488.2 bt492.1 bt496.1 bt496.2.1 bt496.2.2 bt501.2 bt503.1 bt505.1 bt505.2 bt509.1 bt509.2 bt517.1 bt517.2.1 bt517.2.2 bt522.2.2 bt525.1 bt525.2.1 true))) else (laws_FnTempoChanges.j0 k t473 bt476.1 bt476.2 bt480.1 bt484.1 bt484.2 bt488.2 bt492.1 bt496.1 bt496.2.1 bt496.2.2 bt501.2 bt503.1 bt505.1 bt505.2 bt509.1 bt509.2 bt517.1 bt517.2.1 bt517.2.2 bt522.2.2 bt525.1 bt525.2.1 true)))) else (laws_FnTempoChanges.j0 k t473 bt476.1 bt476.2 bt480.1 bt484.1 bt484.2 bt488.2 bt492.1 bt496.1 bt496.2.1 bt496.2.2 bt501.2 bt503.1 bt505.1 bt505.2 bt509.1 bt509.2 bt517.1 bt517.2.1 bt517.2.2 bt522.2.2 bt525.1 bt525.2.1 true))))))))))))))))))))))) = some r := h
 clear h
 by_cases c3 : (wrap64 ((l0.length : Int) + (l1.length : Int))) > 1048576
 ·rw [if_pos c3] at H
  have c3b0 : decide (1048576 < (wrap64 ((l0.length : Int) + (l1.length : Int)))) = true := decide_eq_true c3
  clear c3
  obtain rfl := Option.some.inj H
  go_enter Try.func3, Try.ntmps3
  go_wp2
  go_ret
  exact eW_
 ·rw [if_neg c3] at H
  have c3b0 : decide (1048576 < (wrap64 ((l0.length : Int) + (l1.length : Int)))) = false := decide_eq_false c3
  clear c3
  replace H := Option.bind_eq_some_iff.mp H
  obtain ⟨t473, A40, H⟩ := H
  try dsimp only at H
  have A4 := M_ A40
  clear A40
  replace H := Option.bind_eq_some_iff.mp H
  obtain ⟨⟨t476, t477⟩, A50, H⟩ := H
  try dsimp only at H
  have A5 := M_ A50
  clear A50
  replace H := Option.bind_eq_some_iff.mp H
  obtain ⟨⟨t480, t481⟩, A60, H⟩ := H
  try dsimp only at H
  have A6 := M_ A60
  clear A60
  replace H := Option.bind_eq_some_iff.mp H
  obtain ⟨⟨t484, t485⟩, A70, H⟩ := H
  try dsimp only at H
  have A7 := M_ A70
  clear A70
  replace H := Option.bind_eq_some_iff.mp H
  obtain ⟨⟨t488, t489⟩, A80, H⟩ := H
  try dsimp only at H
  have A8 := M_ A80
  clear A80
  replace H := Option.bind_eq_some_iff.mp H
  obtain ⟨⟨t492, t493⟩, A90, H⟩ := H
  try dsimp only at H
  have A9 := M_ A90
  clear A90
  replace H := Option.bind_eq_some_iff.mp H
  obtain ⟨⟨t496, t497, t498⟩, A100, H⟩ := H
  try dsimp only at H
  have A10 := M_ A100
  clear A100
  replace H := Option.bind_eq_some_iff.mp H
  obtain ⟨⟨t501, t502⟩, A110, H⟩ := H
  try dsimp only at H
  have A11 := M_ A110
  clear A110
  replace H := Option.bind_eq_some_iff.mp H
  obtain ⟨⟨t503, t504⟩, A120, H⟩ := H
  try dsimp only at H
  have A12 := M_ A120
  clear A120
  replace H := Option.bind_eq_some_iff.mp H
  obtain ⟨⟨t505, t506⟩, A130, H⟩ := H
  try dsimp only at H
  have A13 := M_ A130
  clear A130
  replace H := Option.bind_eq_some_iff.mp H
  obtain ⟨⟨t509, t510⟩, A140, H⟩ := H
  try dsimp only at H
  have A14 := M_ A140
  clear A140
  replace H := Option.bind_eq_some_iff.mp H
  obtain ⟨⟨t513, t514⟩, A150, H⟩ := H
  try dsimp only at H
  have A15 := M_ A150
  clear A150
  replace H := Option.bind_eq_some_iff.mp H
  obtain ⟨⟨t517, t518, t519⟩, A160, H⟩ := H
  try dsimp only at H
  have A16 := M_ A160
  clear A160
  replace H := Option.bind_eq_some_iff.mp H
  obtain ⟨⟨t522, t523, t524⟩, A170, H⟩ := H
  try dsimp only at H
  have A17 := M_ A170
  clear A170
  replace H := Option.bind_eq_some_iff.mp H
  obtain ⟨⟨t525, t526, t527⟩, A180, H⟩ := H
  try dsimp only at H
  have A18 := M_ A180
  clear A180
  replace H := Option.bind_eq_some_iff.mp H
  obtain ⟨⟨t528, t529⟩, A190, H⟩ := H
  try dsimp only at H
  have A19 := M_ A190
  clear A190
  replace H := Option.bind_eq_some_iff.mp H
  obtain ⟨⟨t532, t533⟩, A200, H⟩ := H
  try dsimp only at H
  have A20 := M_ A200
  clear A200
  replace H := Option.bind_eq_some_iff.mp H
  obtain ⟨⟨t534, t535⟩, A210, H⟩ := H
  try dsimp only at H
  have A21 := M_ A210
  clear A210
  have HC22 := M_ H
  clear H
  go_enter Try.func3, Try.ntmps3
  go_upto_region 21 with (first | ((with_reducible refine gate_callee (f := 8) rfl ?_); refine gL_ (some 67) rfl rfl Try.func8 (by kernel_rfl) rfl #[.slice A0 l0.length c0] rfl ?_; (with_reducible refine (spec_DrawSimpleTempos.calls k _ _ l0 t473 _ ?side1 ?side2 A4.out).mono ?_); (case side1 => exact cU_ HR0.out); (case side2 => exact HC0.out); rintro e w23 ⟨v474, rfl, ho0, hb⟩; refine ⟨_, rfl, ?_⟩; have n0_ := M_ (Kd.R_lower ho0 bZ_); have n1_ := M_ (bS_ hb); clear HB; have HO475 := n0_; have HB := n1_; clear n0_ n1_; (try clear hb); (try clear hb2); (try clear hk); (try clear hi); (try clear ho0); obtain ⟨Ao24, co24, eo24⟩ := Kd.R_slice HO475.out; subst eo24) | ((with_reducible refine gate_callee (f := 9) rfl ?_); refine gL_ (some 70) rfl rfl Try.func9 (by kernel_rfl) rfl #[.slice Ao24 t473.length co24] rfl ?_; (with_reducible refine (impl_SimpleTempos.calls k _ _ t473 t476 t477 _ ?side1 ?side2 A5.out).mono ?_); (case side1 => exact cU_ (Kd.R_reads' HO475.out).2.2); (case side2 => exact (Kd.R_reads' HO475.out).2.1); rintro e w25 ⟨v478, rfl, ho0, hb⟩; refine ⟨_, rfl, ?_⟩; have n0_ := M_ (Kd.R_elder' (rU_ HO475.out) (Kd.R_base ho0) hb); have n1_ := M_ (Kd.R_lower (Kd.R_new' ho0 (Kd.R_lt (rU_ HO475.out))) bZ_); have n2_ := M_ (bS_ hb); clear HO475; clear HB; have HO475 := n0_; have HO479 := n1_; have HB := n2_; clear n0_ n1_ n2_; (try clear hb); (try clear hb2); (try clear hk); (try clear hi); (try clear ho0)) | ((with_reducible refine gate_callee (f := 10) rfl ?_); refine gL_ (some 75) rfl rfl Try.func10 (by kernel_rfl) rfl #[.slice Ao24 t473.length co24] rfl ?_; (with_reducible refine (spec_SimpleTempos.calls k _ _ t473 t480 t481 _ ?side1 ?side2 A6.out).mono ?_); (case side1 => exact cU_ (Kd.R_reads' HO475.out).2.2); (case side2 => exact (Kd.R_reads' HO475.out).2.1); rintro e w26 ⟨v482, rfl, ho0, hb⟩; refine ⟨_, rfl, ?_⟩; have n0_ := M_ (Kd.R_elder' (rU_ HO475.out) (Kd.R_base ho0) hb); have n1_ := M_ (Kd.R_elder' (rU_ HO479.out) (Kd.R_base ho0) hb); have n2_ := M_ (Kd.R_lower (Kd.R_new' (Kd.R_new' ho0 (Kd.R_lt (rU_ HO475.out))) (Kd.R_lt (rU_ HO479.out))) bZ_); have n3_ := M_ (bS_ hb); clear HO475; clear HO479; clear HB; have HO475 := n0_; have HO479 := n1_; have HO483 := n2_; have HB := n3_; clear n0_ n1_ n2_ n3_; (try clear hb); (try clear hb2); (try clear hk); (try clear hi); (try clear ho0)) | ((with_reducible refine gate_callee (f := 11) rfl ?_); refine gL_ (some 80) rfl rfl Try.func11 (by kernel_rfl) rfl #[.slice A1 l1.length c1] rfl ?_; (with_reducible refine (spec_DrawScaleTempos.calls k _ _ l1 t484 t485 _ ?side1 ?side2 A7.out).mono ?_); (case side1 => exact cU_ (Kd.C_below HR1.out HB.out)); (case side2 => exact HC1.out); rintro e w27 ⟨v486, rfl, ho0, hb⟩; refine ⟨_, rfl, ?_⟩; have n0_ := M_ (Kd.R_elder' (rU_ HO475.out) (Kd.R_base ho0) hb); have n1_ := M_ (Kd.R_elder' (rU_ HO479.out) (Kd.R_base ho0) hb); have n2_ := M_ (Kd.R_elder' (rU_ HO483.out) (Kd.R_base ho0) hb); have n3_ := M_ (Kd.R_lower (Kd.R_new' (Kd.R_new' (Kd.R_new' ho0 (Kd.R_lt (rU_ HO475.out))) (Kd.R_lt (rU_ HO479.out))) (Kd.R_lt (rU_ HO483.out))) bZ_); have n4_ := M_ (bS_ hb); clear HO475; clear HO479; clear HO483; clear HB; have HO475 := n0_; have HO479 := n1_; have HO483 := n2_; have HO487 := n3_; have HB := n4_; clear n0_ n1_ n2_ n3_ n4_; (try clear hb); (try clear hb2); (try clear hk); (try clear hi); (try clear ho0); obtain ⟨Ao28, co28, eo28⟩ := Kd.R_slice HO487.out; subst eo28) | ((with_reducible refine gate_callee (f := 12) rfl ?_); refine gL_ (some 86) rfl rfl Try.func12 (by kernel_rfl) rfl #[.slice Ao28 t484.length co28, .int .i64 t485] rfl ?_; (with_reducible refine (impl_ScaleTempos.calls k _ _ t484 t485 t488 t489 _ ?side1 ?side2 A8.out).mono ?_); (case side1 => exact cU_ (Kd.R_reads' HO487.out).2.2); (case side2 => exact (Kd.R_reads' HO487.out).2.1); rintro e w29 ⟨v490, rfl, ho0, hb⟩; refine ⟨_, rfl, ?_⟩; have n0_ := M_ (Kd.R_elder' (rU_ HO475.out) (Kd.R_base ho0) hb); have n1_ := M_ (Kd.R_elder' (rU_ HO479.out) (Kd.R_base ho0) hb); have n2_ := M_ (Kd.R_elder' (rU_ HO483.out) (Kd.R_base ho0) hb); have n3_ := M_ (Kd.R_elder' (rU_ HO487.out) (Kd.R_base ho0) hb); have n4_ := M_ (Kd.R_lower (Kd.R_new' (Kd.R_new' (Kd.R_new' (Kd.R_new' ho0 (Kd.R_lt (rU_ HO475.out))) (Kd.R_lt (rU_ HO479.out))) (Kd.R_lt (rU_ HO483.out))) (Kd.R_lt (rU_ HO487.out))) bZ_); have n5_ := M_ (bS_ hb); clear HO475; clear HO479; clear HO483; clear HO487; clear HB; have HO475 := n0_; have HO479 := n1_; have HO483 := n2_; have HO487 := n3_; have HO491 := n4_; have HB := n5_; clear n0_ n1_ n2_ n3_ n4_ n5_; (try clear hb); (try clear hb2); (try clear hk); (try clear hi); (try clear ho0)) | ((with_reducible refine gate_callee (f := 13) rfl ?_); refine gL_ (some 92) rfl rfl Try.func13 (by kernel_rfl) rfl #[.slice Ao28 t484.length co28, .int .i64 t485] rfl ?_; (with_reducible refine (spec_ScaleTempos.calls k _ _ t484 t485 t492 t493 _ ?side1 ?side2 A9.out).mono ?_); (case side1 => exact cU_ (Kd.R_reads' HO487.out).2.2); (case side2 => exact (Kd.R_reads' HO487.out).2.1); rintro e w30 ⟨v494, rfl, ho0, hb⟩; refine ⟨_, rfl, ?_⟩; have n0_ := M_ (Kd.R_elder' (rU_ HO475.out) (Kd.R_base ho0) hb); have n1_ := M_ (Kd.R_elder' (rU_ HO479.out) (Kd.R_base ho0) hb); have n2_ := M_ (Kd.R_elder' (rU_ HO483.out) (Kd.R_base ho0) hb); have n3_ := M_ (Kd.R_elder' (rU_ HO487.out) (Kd.R_base ho0) hb); have n4_ := M_ (Kd.R_elder' (rU_ HO491.out) (Kd.R_base ho0) hb); have n5_ := M_ (Kd.R_lower (Kd.R_new' (Kd.R_new' (Kd.R_new' (Kd.R_new' (Kd.R_new' ho0 (Kd.R_lt (rU_ HO475.out))) (Kd.R_lt (rU_ HO479.out))) (Kd.R_lt (rU_ HO483.out))) (Kd.R_lt (rU_ HO487.out))) (Kd.R_lt (rU_ HO491.out))) bZ_); have n6_ := M_ (bS_ hb); clear HO475; clear HO479; clear HO483; clear HO487; clear HO491; clear HB; have HO475 := n0_; have HO479 := n1_; have HO483 := n2_; have HO487 := n3_; have HO491 := n4_; have HO495 := n5_; have HB := n6_; clear n0_ n1_ n2_ n3_ n4_ n5_ n6_; (try clear hb); (try clear hb2); (try clear hk); (try clear hi); (try clear ho0)) | ((with_reducible refine gate_callee (f := 14) rfl ?_); refine gL_ (some 97) rfl rfl Try.func14 (by kernel_rfl) rfl #[.slice A1 l1.length c1] rfl ?_; (with_reducible refine (spec_DrawEvenTempo.calls k _ _ l1 t496 t497 t498 _ ?side1 ?side2 A10.out).mono ?_); (case side1 => exact cU_ (Kd.C_below HR1.out HB.out)); (case side2 => exact HC1.out); rintro e w31 ⟨v499, rfl, ho0, hb⟩; refine ⟨_, rfl, ?_⟩; have n0_ := M_ (Kd.R_elder' (rU_ HO475.out) (Kd.R_base ho0) hb); have n1_ := M_ (Kd.R_elder' (rU_ HO479.out) (Kd.R_base ho0) hb); have n2_ := M_ (Kd.R_elder' (rU_ HO483.out) (Kd.R_base ho0) hb); have n3_ := M_ (Kd.R_elder' (rU_ HO487.out) (Kd.R_base ho0) hb); have n4_ := M_ (Kd.R_elder' (rU_ HO491.out) (Kd.R_base ho0) hb); have n5_ := M_ (Kd.R_elder' (rU_ HO495.out) (Kd.R_base ho0) hb); have n6_ := M_ (Kd.R_lower (Kd.R_new' (Kd.R_new' (Kd.R_new' (Kd.R_new' (Kd.R_new' (Kd.R_new' ho0 (Kd.R_lt (rU_ HO475.out))) (Kd.R_lt (rU_ HO479.out))) (Kd.R_lt (rU_ HO483.out))) (Kd.R_lt (rU_ HO487.out))) (Kd.R_lt (rU_ HO491.out))) (Kd.R_lt (rU_ HO495.out))) bZ_); have n7_ := M_ (bS_ hb); clear HO475; clear HO479; clear HO483; clear HO487; clear HO491; clear HO495; clear HB; have HO475 := n0_; have HO479 := n1_; have HO483 := n2_; have HO487 := n3_; have HO491 := n4_; have HO495 := n5_; have HO500 := n6_; have HB := n7_; clear n0_ n1_ n2_ n3_ n4_ n5_ n6_ n7_; (try clear hb); (try clear hb2); (try clear hk); (try clear hi); (try clear ho0); obtain ⟨Ao32, co32, eo32⟩ := Kd.R_slice HO500.out; subst eo32) | ((with_reducible refine gate_callee (f := 15) rfl ?_); refine gL_ (some 105) rfl rfl Try.func15 (by kernel_rfl) rfl #[.slice Ao32 t496.length co32, .int .i64 t497, .int .i64 t498] rfl ?_; (with_reducible refine (impl_EvenTempo.calls k _ _ t496 t497 t498 t501 t502 _ ?side1 ?side2 A11.out).mono ?_); (case side1 => exact cU_ (Kd.R_reads' HO500.out).2.2); (case side2 => exact (Kd.R_reads' HO500.out).2.1); rintro e w33 ⟨rfl, hb⟩; refine ⟨_, rfl, ?_⟩; have n0_ := M_ (rb_ (rU_ HO475.out) hb); have n1_ := M_ (rb_ (rU_ HO479.out) hb); have n2_ := M_ (rb_ (rU_ HO483.out) hb); have n3_ := M_ (rb_ (rU_ HO487.out) hb); have n4_ := M_ (rb_ (rU_ HO491.out) hb); have n5_ := M_ (rb_ (rU_ HO495.out) hb); have n6_ := M_ (rb_ (rU_ HO500.out) hb); have n7_ := M_ (bS_ hb); clear HO475; clear HO479; clear HO483; clear HO487; clear HO491; clear HO495; clear HO500; clear HB; have HO475 := n0_; have HO479 := n1_; have HO483 := n2_; have HO487 := n3_; have HO491 := n4_; have HO495 := n5_; have HO500 := n6_; have HB := n7_; clear n0_ n1_ n2_ n3_ n4_ n5_ n6_ n7_; (try clear hb); (try clear hb2); (try clear hk); (try clear hi)) | ((with_reducible refine gate_callee (f := 16) rfl ?_); refine gL_ (some 112) rfl rfl Try.func16 (by kernel_rfl) rfl #[.slice Ao32 t496.length co32, .int .i64 t497, .int .i64 t498] rfl ?_; (with_reducible refine (spec_EvenTempo.calls k _ _ t496 t497 t498 t503 t504 _ ?side1 ?side2 A12.out).mono ?_); (case side1 => exact cU_ (Kd.R_reads' HO500.out).2.2); (case side2 => exact (Kd.R_reads' HO500.out).2.1); rintro e w34 ⟨rfl, hb⟩; refine ⟨_, rfl, ?_⟩; have n0_ := M_ (rb_ (rU_ HO475.out) hb); have n1_ := M_ (rb_ (rU_ HO479.out) hb); have n2_ := M_ (rb_ (rU_ HO483.out) hb); have n3_ := M_ (rb_ (rU_ HO487.out) hb); have n4_ := M_ (rb_ (rU_ HO491.out) hb); have n5_ := M_ (rb_ (rU_ HO495.out) hb); have n6_ := M_ (rb_ (rU_ HO500.out) hb); have n7_ := M_ (bS_ hb); clear HO475; clear HO479; clear HO483; clear HO487; clear HO491; clear HO495; clear HO500; clear HB; have HO475 := n0_; have HO479 := n1_; have HO483 := n2_; have HO487 := n3_; have HO491 := n4_; have HO495 := n5_; have HO500 := n6_; have HB := n7_; clear n0_ n1_ n2_ n3_ n4_ n5_ n6_ n7_; (try clear hb); (try clear hb2); (try clear hk); (try clear hi)) | ((with_reducible refine gate_callee (f := 17) rfl ?_); refine gL_ (some 117) rfl rfl Try.func17 (by kernel_rfl) rfl #[.slice A1 l1.length c1] rfl ?_; (with_reducible refine (spec_DrawDropTempo.calls k _ _ l1 t505 t506 _ ?side1 ?side2 A13.out).mono ?_); (case side1 => exact cU_ (Kd.C_below HR1.out HB.out)); (case side2 => exact HC1.out); rintro e w35 ⟨v507, rfl, ho0, hb⟩; refine ⟨_, rfl, ?_⟩; have n0_ := M_ (Kd.R_elder' (rU_ HO475.out) (Kd.R_base ho0) hb); have n1_ := M_ (Kd.R_elder' (rU_ HO479.out) (Kd.R_base ho0) hb); have n2_ := M_ (Kd.R_elder' (rU_ HO483.out) (Kd.R_base ho0) hb); have n3_ := M_ (Kd.R_elder' (rU_ HO487.out) (Kd.R_base ho0) hb); have n4_ := M_ (Kd.R_elder' (rU_ HO491.out) (Kd.R_base ho0) hb); have n5_ := M_ (Kd.R_elder' (rU_ HO495.out) (Kd.R_base ho0) hb); have n6_ := M_ (Kd.R_elder' (rU_ HO500.out) (Kd.R_base ho0) hb); have n7_ := M_ (Kd.R_lower (Kd.R_new' (Kd.R_new' (Kd.R_new' (Kd.R_new' (Kd.R_new' (Kd.R_new' (Kd.R_new' ho0 (Kd.R_lt (rU_ HO475.out))) (Kd.R_lt (rU_ HO479.out))) (Kd.R_lt (rU_ HO483.out))) (Kd.R_lt (rU_ HO487.out))) (Kd.R_lt (rU_ HO491.out))) (Kd.R_lt (rU_ HO495.out))) (Kd.R_lt (rU_ HO500.out))) bZ_); have n8_ := M_ (bS_ hb); clear HO475; clear HO479; clear HO483; clear HO487; clear HO491; clear HO495; clear HO500; clear HB; have HO475 := n0_; have HO479 := n1_; have HO483 := n2_; have HO487 := n3_; have HO491 := n4_; have HO495 := n5_; have HO500 := n6_; have HO508 := n7_; have HB := n8_; clear n0_ n1_ n2_ n3_ n4_ n5_ n6_ n7_ n8_; (try clear hb); (try clear hb2); (try clear hk); (try clear hi); (try clear ho0); obtain ⟨Ao36, co36, eo36⟩ := Kd.R_slice HO508.out; subst eo36) | ((with_reducible refine gate_callee (f := 18) rfl ?_); refine gL_ (some 123) rfl rfl Try.func18 (by kernel_rfl) rfl #[.slice Ao36 t505.length co36, .int .i64 t506] rfl ?_; (with_reducible refine (impl_DropTempo.calls k _ _ t505 t506 t509 t510 _ ?side1 ?side2 A14.out).mono ?_); (case side1 => exact cU_ (Kd.R_reads' HO508.out).2.2); (case side2 => exact (Kd.R_reads' HO508.out).2.1); rintro e w37 ⟨v511, rfl, ho0, hb⟩; refine ⟨_, rfl, ?_⟩; have n0_ := M_ (Kd.R_elder' (rU_ HO475.out) (Kd.R_base ho0) hb); have n1_ := M_ (Kd.R_elder' (rU_ HO479.out) (Kd.R_base ho0) hb); have n2_ := M_ (Kd.R_elder' (rU_ HO483.out) (Kd.R_base ho0) hb); have n3_ := M_ (Kd.R_elder' (rU_ HO487.out) (Kd.R_base ho0) hb); have n4_ := M_ (Kd.R_elder' (rU_ HO491.out) (Kd.R_base ho0) hb); have n5_ := M_ (Kd.R_elder' (rU_ HO495.out) (Kd.R_base ho0) hb); have n6_ := M_ (Kd.R_elder' (rU_ HO500.out) (Kd.R_base ho0) hb); have n7_ := M_ (Kd.R_elder' (rU_ HO508.out) (Kd.R_base ho0) hb); have n8_ := M_ (Kd.R_lower (Kd.R_new' (Kd.R_new' (Kd.R_new' (Kd.R_new' (Kd.R_new' (Kd.R_new' (Kd.R_new' (Kd.R_new' ho0 (Kd.R_lt (rU_ HO475.out))) (Kd.R_lt (rU_ HO479.out))) (Kd.R_lt (rU_ HO483.out))) (Kd.R_lt (rU_ HO487.out))) (Kd.R_lt (rU_ HO491.out))) (Kd.R_lt (rU_ HO495.out))) (Kd.R_lt (rU_ HO500.out))) (Kd.R_lt (rU_ HO508.out))) bZ_); have n9_ := M_ (bS_ hb); clear HO475; clear HO479; clear HO483; clear HO487; clear HO491; clear HO495; clear HO500; clear HO508; clear HB; have HO475 := n0_; have HO479 := n1_; have HO483 := n2_; have HO487 := n3_; have HO491 := n4_; have HO495 := n5_; have HO500 := n6_; have HO508 := n7_; have HO512 := n8_; have HB := n9_; clear n0_ n1_ n2_ n3_ n4_ n5_ n6_ n7_ n8_ n9_; (try clear hb); (try clear hb2); (try clear hk); (try clear hi); (try clear ho0)) | ((with_reducible refine gate_callee (f := 19) rfl ?_); refine gL_ (some 129) rfl rfl Try.func19 (by kernel_rfl) rfl #[.slice Ao36 t505.length co36, .int .i64 t506] rfl ?_; (with_reducible refine (spec_DropTempo.calls k _ _ t505 t506 t513 t514 _ ?side1 ?side2 A15.out).mono ?_); (case side1 => exact cU_ (Kd.R_reads' HO508.out).2.2); (case side2 => exact (Kd.R_reads' HO508.out).2.1); rintro e w38 ⟨v515, rfl, ho0, hb⟩; refine ⟨_, rfl, ?_⟩; have n0_ := M_ (Kd.R_elder' (rU_ HO475.out) (Kd.R_base ho0) hb); have n1_ := M_ (Kd.R_elder' (rU_ HO479.out) (Kd.R_base ho0) hb); have n2_ := M_ (Kd.R_elder' (rU_ HO483.out) (Kd.R_base ho0) hb); have n3_ := M_ (Kd.R_elder' (rU_ HO487.out) (Kd.R_base ho0) hb); have n4_ := M_ (Kd.R_elder' (rU_ HO491.out) (Kd.R_base ho0) hb); have n5_ := M_ (Kd.R_elder' (rU_ HO495.out) (Kd.R_base ho0) hb); have n6_ := M_ (Kd.R_elder' (rU_ HO500.out) (Kd.R_base ho0) hb); have n7_ := M_ (Kd.R_elder' (rU_ HO508.out) (Kd.R_base ho0) hb); have n8_ := M_ (Kd.R_elder' (rU_ HO512.out) (Kd.R_base ho0) hb); have n9_ := M_ (Kd.R_lower (Kd.R_new' (Kd.R_new' (Kd.R_new' (Kd.R_new' (Kd.R_new' (Kd.R_new' (Kd.R_new' (Kd.R_new' (Kd.R_new' ho0 (Kd.R_lt (rU_ HO475.out))) (Kd.R_lt (rU_ HO479.out))) (Kd.R_lt (rU_ HO483.out))) (Kd.R_lt (rU_ HO487.out))) (Kd.R_lt (rU_ HO491.out))) (Kd.R_lt (rU_ HO495.out))) (Kd.R_lt (rU_ HO500.out))) (Kd.R_lt (rU_ HO508.out))) (Kd.R_lt (rU_ HO512.out))) bZ_); have n10_ := M_ (bS_ hb); clear HO475; clear HO479; clear HO483; clear HO487; clear HO491; clear HO495; clear HO500; clear HO508; clear HO512; clear HB; have HO475 := n0_; have HO479 := n1_; have HO483 := n2_; have HO487 := n3_; have HO491 := n4_; have HO495 := n5_; have HO500 := n6_; have HO508 := n7_; have HO512 := n8_; have HO516 := n9_; have HB := n10_; clear n0_ n1_ n2_ n3_ n4_ n5_ n6_ n7_ n8_ n9_ n10_; (try clear hb); (try clear hb2); (try clear hk); (try clear hi); (try clear ho0)) | ((with_reducible refine gate_callee (f := 20) rfl ?_); refine gL_ (some 134) rfl rfl Try.func20 (by kernel_rfl) rfl #[.slice A1 l1.length c1] rfl ?_; (with_reducible refine (spec_DrawPaperSpeed.calls k _ _ l1 t517 t518 t519 _ ?side1 ?side2 A16.out).mono ?_); (case side1 => exact cU_ (Kd.C_below HR1.out HB.out)); (case side2 => exact HC1.out); rintro e w39 ⟨v520, rfl, ho0, hb⟩; refine ⟨_, rfl, ?_⟩; have n0_ := M_ (Kd.R_elder' (rU_ HO475.out) (Kd.R_base ho0) hb); have n1_ := M_ (Kd.R_elder' (rU_ HO479.out) (Kd.R_base ho0) hb); have n2_ := M_ (Kd.R_elder' (rU_ HO483.out) (Kd.R_base ho0) hb); have n3_ := M_ (Kd.R_elder' (rU_ HO487.out) (Kd.R_base ho0) hb); have n4_ := M_ (Kd.R_elder' (rU_ HO491.out) (Kd.R_base ho0) hb); have n5_ := M_ (Kd.R_elder' (rU_ HO495.out) (Kd.R_base ho0) hb); have n6_ := M_ (Kd.R_elder' (rU_ HO500.out) (Kd.R_base ho0) hb); have n7_ := M_ (Kd.R_elder' (rU_ HO508.out) (Kd.R_base ho0) hb); have n8_ := M_ (Kd.R_elder' (rU_ HO512.out) (Kd.R_base ho0) hb); have n9_ := M_ (Kd.R_elder' (rU_ HO516.out) (Kd.R_base ho0) hb); have n10_ := M_ (Kd.R_lower (Kd.R_new' (Kd.R_new' (Kd.R_new' (Kd.R_new' (Kd.R_new' (Kd.R_new' (Kd.R_new' (Kd.R_new' (Kd.R_new' (Kd.R_new' ho0 (Kd.R_lt (rU_ HO475.out))) (Kd.R_lt (rU_ HO479.out))) (Kd.R_lt (rU_ HO483.out))) (Kd.R_lt (rU_ HO487.out))) (Kd.R_lt (rU_ HO491.out))) (Kd.R_lt (rU_ HO495.out))) (Kd.R_lt (rU_ HO500.out))) (Kd.R_lt (rU_ HO508.out))) (Kd.R_lt (rU_ HO512.out))) (Kd.R_lt (rU_ HO516.out))) bZ_); have n11_ := M_ (bS_ hb); clear HO475; clear HO479; clear HO483; clear HO487; clear HO491; clear HO495; clear HO500; clear HO508; clear HO512; clear HO516; clear HB; have HO475 := n0_; have HO479 := n1_; have HO483 := n2_; have HO487 := n3_; have HO491 := n4_; have HO495 := n5_; have HO500 := n6_; have HO508 := n7_; have HO512 := n8_; have HO516 := n9_; have HO521 := n10_; have HB := n11_; clear n0_ n1_ n2_ n3_ n4_ n5_ n6_ n7_ n8_ n9_ n10_ n11_; (try clear hb); (try clear hb2); (try clear hk); (try clear hi); (try clear ho0); obtain ⟨Ao40, co40, eo40⟩ := Kd.R_slice HO521.out; subst eo40) | ((with_reducible refine gate_callee (f := 21) rfl ?_); refine gL_ (some 142) rfl rfl Try.func21 (by kernel_rfl) rfl #[.slice Ao40 t517.length co40, .int .i64 t518, .int .i64 t519] rfl ?_; (with_reducible refine (impl_PaperSpeed.calls k _ _ t517 t518 t519 t522 t523 t524 _ ?side1 ?side2 A17.out).mono ?_); (case side1 => exact cU_ (Kd.R_reads' HO521.out).2.2); (case side2 => exact (Kd.R_reads' HO521.out).2.1); rintro e w41 ⟨rfl, hb⟩; refine ⟨_, rfl, ?_⟩; have n0_ := M_ (rb_ (rU_ HO475.out) hb); have n1_ := M_ (rb_ (rU_ HO479.out) hb); have n2_ := M_ (rb_ (rU_ HO483.out) hb); have n3_ := M_ (rb_ (rU_ HO487.out) hb); have n4_ := M_ (rb_ (rU_ HO491.out) hb); have n5_ := M_ (rb_ (rU_ HO495.out) hb); have n6_ := M_ (rb_ (rU_ HO500.out) hb); have n7_ := M_ (rb_ (rU_ HO508.out) hb); have n8_ := M_ (rb_ (rU_ HO512.out) hb); have n9_ := M_ (rb_ (rU_ HO516.out) hb); have n10_ := M_ (rb_ (rU_ HO521.out) hb); have n11_ := M_ (bS_ hb); clear HO475; clear HO479; clear HO483; clear HO487; clear HO491; clear HO495; clear HO500; clear HO508; clear HO512; clear HO516; clear HO521; clear HB; have HO475 := n0_; have HO479 := n1_; have HO483 := n2_; have HO487 := n3_; have HO491 := n4_; have HO495 := n5_; have HO500 := n6_; have HO508 := n7_; have HO512 := n8_; have HO516 := n9_; have HO521 := n10_; have HB := n11_; clear n0_ n1_ n2_ n3_ n4_ n5_ n6_ n7_ n8_ n9_ n10_ n11_; (try clear hb); (try clear hb2); (try clear hk); (try clear hi)) | ((with_reducible refine gate_callee (f := 22) rfl ?_); refine gL_ (some 150) rfl rfl Try.func22 (by kernel_rfl) rfl #[.slice Ao40 t517.length co40, .int .i64 t518, .int .i64 t519] rfl ?_; (with_reducible refine (spec_PaperSpeed.calls k _ _ t517 t518 t519 t525 t526 t527 _ ?side1 ?side2 A18.out).mono ?_); (case side1 => exact cU_ (Kd.R_reads' HO521.out).2.2); (case side2 => exact (Kd.R_reads' HO521.out).2.1); rintro e w42 ⟨rfl, hb⟩; refine ⟨_, rfl, ?_⟩; have n0_ := M_ (rb_ (rU_ HO475.out) hb); have n1_ := M_ (rb_ (rU_ HO479.out) hb); have n2_ := M_ (rb_ (rU_ HO483.out) hb); have n3_ := M_ (rb_ (rU_ HO487.out) hb); have n4_ := M_ (rb_ (rU_ HO491.out) hb); have n5_ := M_ (rb_ (rU_ HO495.out) hb); have n6_ := M_ (rb_ (rU_ HO500.out) hb); have n7_ := M_ (rb_ (rU_ HO508.out) hb); have n8_ := M_ (rb_ (rU_ HO512.out) hb); have n9_ := M_ (rb_ (rU_ HO516.out) hb); have n10_ := M_ (rb_ (rU_ HO521.out) hb); have n11_ := M_ (bS_ hb); clear HO475; clear HO479; clear HO483; clear HO487; clear HO491; clear HO495; clear HO500; clear HO508; clear HO512; clear HO516; clear HO521; clear HB; have HO475 := n0_; have HO479 := n1_; have HO483 := n2_; have HO487 := n3_; have HO491 := n4_; have HO495 := n5_; have HO500 := n6_; have HO508 := n7_; have HO512 := n8_; have HO516 := n9_; have HO521 := n10_; have HB := n11_; clear n0_ n1_ n2_ n3_ n4_ n5_ n6_ n7_ n8_ n9_ n10_ n11_; (try clear hb); (try clear hb2); (try clear hk); (try clear hi)) | ((with_reducible refine gate_callee (f := 23) rfl ?_); refine gL_ (some 156) rfl rfl Try.func23 (by kernel_rfl) rfl #[.slice A1 l1.length c1] rfl ?_; (with_reducible refine (spec_DrawTempoAt.calls k _ _ l1 t528 t529 _ ?side1 ?side2 A19.out).mono ?_); (case side1 => exact cU_ (Kd.C_below HR1.out HB.out)); (case side2 => exact HC1.out); rintro e w43 ⟨v530, rfl, ho0, hb⟩; refine ⟨_, rfl, ?_⟩; have n0_ := M_ (Kd.R_elder' (rU_ HO475.out) (Kd.R_base ho0) hb); have n1_ := M_ (Kd.R_elder' (rU_ HO479.out) (Kd.R_base ho0) hb); have n2_ := M_ (Kd.R_elder' (rU_ HO483.out) (Kd.R_base ho0) hb); have n3_ := M_ (Kd.R_elder' (rU_ HO487.out) (Kd.R_base ho0) hb); have n4_ := M_ (Kd.R_elder' (rU_ HO491.out) (Kd.R_base ho0) hb); have n5_ := M_ (Kd.R_elder' (rU_ HO495.out) (Kd.R_base ho0) hb); have n6_ := M_ (Kd.R_elder' (rU_ HO500.out) (Kd.R_base ho0) hb); have n7_ := M_ (Kd.R_elder' (rU_ HO508.out) (Kd.R_base ho0) hb); have n8_ := M_ (Kd.R_elder' (rU_ HO512.out) (Kd.R_base ho0) hb); have n9_ := M_ (Kd.R_elder' (rU_ HO516.out) (Kd.R_base ho0) hb); have n10_ := M_ (Kd.R_elder' (rU_ HO521.out) (Kd.R_base ho0) hb); have n11_ := M_ (Kd.R_lower (Kd.R_new' (Kd.R_new' (Kd.R_new' (Kd.R_new' (Kd.R_new' (Kd.R_new' (Kd.R_new' (Kd.R_new' (Kd.R_new' (Kd.R_new' (Kd.R_new' ho0 (Kd.R_lt (rU_ HO475.out))) (Kd.R_lt (rU_ HO479.out))) (Kd.R_lt (rU_ HO483.out))) (Kd.R_lt (rU_ HO487.out))) (Kd.R_lt (rU_ HO491.out))) (Kd.R_lt (rU_ HO495.out))) (Kd.R_lt (rU_ HO500.out))) (Kd.R_lt (rU_ HO508.out))) (Kd.R_lt (rU_ HO512.out))) (Kd.R_lt (rU_ HO516.out))) (Kd.R_lt (rU_ HO521.out))) bZ_); have n12_ := M_ (bS_ hb); clear HO475; clear HO479; clear HO483; clear HO487; clear HO491; clear HO495; clear HO500; clear HO508; clear HO512; clear HO516; clear HO521; clear HB; have HO475 := n0_; have HO479 := n1_; have HO483 := n2_; have HO487 := n3_; have HO491 := n4_; have HO495 := n5_; have HO500 := n6_; have HO508 := n7_; have HO512 := n8_; have HO516 := n9_; have HO521 := n10_; have HO531 := n11_; have HB := n12_; clear n0_ n1_ n2_ n3_ n4_ n5_ n6_ n7_ n8_ n9_ n10_ n11_ n12_; (try clear hb); (try clear hb2); (try clear hk); (try clear hi); (try clear ho0); obtain ⟨Ao44, co44, eo44⟩ := Kd.R_slice HO531.out; subst eo44) | ((with_reducible refine gate_callee (f := 24) rfl ?_); refine gL_ (some 162) rfl rfl Try.func24 (by kernel_rfl) rfl #[.slice Ao44 t528.length co44, .int .i64 t529] rfl ?_; (with_reducible refine (impl_TempoAt.calls k _ _ t528 t529 t532 t533 _ ?side1 ?side2 A20.out).mono ?_); (case side1 => exact cU_ (Kd.R_reads' HO531.out).2.2); (case side2 => exact (Kd.R_reads' HO531.out).2.1); rintro e w45 ⟨rfl, hb⟩; refine ⟨_, rfl, ?_⟩; have n0_ := M_ (rb_ (rU_ HO475.out) hb); have n1_ := M_ (rb_ (rU_ HO479.out) hb); have n2_ := M_ (rb_ (rU_ HO483.out) hb); have n3_ := M_ (rb_ (rU_ HO487.out) hb); have n4_ := M_ (rb_ (rU_ HO491.out) hb); have n5_ := M_ (rb_ (rU_ HO495.out) hb); have n6_ := M_ (rb_ (rU_ HO500.out) hb); have n7_ := M_ (rb_ (rU_ HO508.out) hb); have n8_ := M_ (rb_ (rU_ HO512.out) hb); have n9_ := M_ (rb_ (rU_ HO516.out) hb); have n10_ := M_ (rb_ (rU_ HO521.out) hb); have n11_ := M_ (rb_ (rU_ HO531.out) hb); have n12_ := M_ (bS_ hb); clear HO475; clear HO479; clear HO483; clear HO487; clear HO491; clear HO495; clear HO500; clear HO508; clear HO512; clear HO516; clear HO521; clear HO531; clear HB; have HO475 := n0_; have HO479 := n1_; have HO483 := n2_; have HO487 := n3_; have HO491 := n4_; have HO495 := n5_; have HO500 := n6_; have HO508 := n7_; have HO512 := n8_; have HO516 := n9_; have HO521 := n10_; have HO531 := n11_; have HB := n12_; clear n0_ n1_ n2_ n3_ n4_ n5_ n6_ n7_ n8_ n9_ n10_ n11_ n12_; (try clear hb); (try clear hb2); (try clear hk); (try clear hi)) | ((with_reducible refine gate_callee (f := 25) rfl ?_); refine gL_ (some 168) rfl rfl Try.func25 (by kernel_rfl) rfl #[.slice Ao44 t528.length co44, .int .i64 t529] rfl ?_; (with_reducible refine (spec_TempoAt.calls k _ _ t528 t529 t534 t535 _ ?side1 ?side2 A21.out).mono ?_); (case side1 => exact cU_ (Kd.R_reads' HO531.out).2.2); (case side2 => exact (Kd.R_reads' HO531.out).2.1); rintro e w46 ⟨rfl, hb⟩; refine ⟨_, rfl, ?_⟩; have n0_ := M_ (rb_ (rU_ HO475.out) hb); have n1_ := M_ (rb_ (rU_ HO479.out) hb); have n2_ := M_ (rb_ (rU_ HO483.out) hb); have n3_ := M_ (rb_ (rU_ HO487.out) hb); have n4_ := M_ (rb_ (rU_ HO491.out) hb); have n5_ := M_ (rb_ (rU_ HO495.out) hb); have n6_ := M_ (rb_ (rU_ HO500.out) hb); have n7_ := M_ (rb_ (rU_ HO508.out) hb); have n8_ := M_ (rb_ (rU_ HO512.out) hb); have n9_ := M_ (rb_ (rU_ HO516.out) hb); have n10_ := M_ (rb_ (rU_ HO521.out) hb); have n11_ := M_ (rb_ (rU_ HO531.out) hb); have n12_ := M_ (bS_ hb); clear HO475; clear HO479; clear HO483; clear HO487; clear HO491; clear HO495; clear HO500; clear HO508; clear HO512; clear HO516; clear HO521; clear HO531; clear HB; have HO475 := n0_; have HO479 := n1_; have HO483 := n2_; have HO487 := n3_; have HO491 := n4_; have HO495 := n5_; have HO500 := n6_; have HO508 := n7_; have HO512 := n8_; have HO516 := n9_; have HO521 := n10_; have HO531 := n11_; have HB := n12_; clear n0_ n1_ n2_ n3_ n4_ n5_ n6_ n7_ n8_ n9_ n10_ n11_ n12_; (try clear hb); (try clear hb2); (try clear hk); (try clear hi)))
  (try simp only [Act.put, la_, lb_, lc_])
  go_cut [242] (fun v242 wc => ∃ (kq : Nat) (x242_21 : Bool), v242 = .bool x242_21 ∧ Aside0 (laws_FnTempoChanges.j0 kq t473 t476 t477 t480 t484 t485 t489 t492 t496 t497 t498 t502 t503 t505 t506 t509 t510 t517 t518 t519 t524 t525 t526 x242_21 = some r) ∧ Aside0 (kq ≤ k) ∧ Aside0 (Kd.R k41 41 wc w.heap.size (fun k_ => some k_ ≠ (v478 : Value).ownBlock ∧ some k_ ≠ (v482 : Value).ownBlock ∧ some k_ ≠ ((.slice Ao28 t484.length co28) : Value).ownBlock ∧ some k_ ≠ (v494 : Value).ownBlock ∧ some k_ ≠ ((.slice Ao32 t496.length co32) : Value).ownBlock ∧ some k_ ≠ ((.slice Ao36 t505.length co36) : Value).ownBlock ∧ some k_ ≠ (v511 : Value).ownBlock ∧ some k_ ≠ ((.slice Ao40 t517.length co40) : Value).ownBlock) (.slice Ao24 t473.length co24) t473) ∧ Aside0 (Kd.R k41 41 wc w.heap.size (fun k_ => some k_ ≠ ((.slice Ao24 t473.length co24) : Value).ownBlock ∧ some k_ ≠ (v482 : Value).ownBlock ∧ some k_ ≠ ((.slice Ao28 t484.length co28) : Value).ownBlock ∧ some k_ ≠ (v494 : Value).ownBlock ∧ some k_ ≠ ((.slice Ao32 t496.length co32) : Value).ownBlock ∧ some k_ ≠ ((.slice Ao36 t505.length co36) : Value).ownBlock ∧ some k_ ≠ (v511 : Value).ownBlock ∧ some k_ ≠ ((.slice Ao40 t517.length co40) : Value).ownBlock) v478 t476) ∧ Aside0 (Kd.R k41 41 wc w.heap.size (fun k_ => some k_ ≠ ((.slice Ao24 t473.length co24) : Value).ownBlock ∧ some k_ ≠ (v478 : Value).ownBlock ∧ some k_ ≠ ((.slice Ao28 t484.length co28) : Value).ownBlock ∧ some k_ ≠ (v494 : Value).ownBlock ∧ some k_ ≠ ((.slice Ao32 t496.length co32) : Value).ownBlock ∧ some k_ ≠ ((.slice Ao36 t505.length co36) : Value).ownBlock ∧ some k_ ≠ (v511 : Value).ownBlock ∧ some k_ ≠ ((.slice Ao40 t517.length co40) : Value).ownBlock) v482 t480) ∧ Aside0 (Kd.R k41 41 wc w.heap.size (fun k_ => some k_ ≠ ((.slice Ao24 t473.length co24) : Value).ownBlock ∧ some k_ ≠ (v478 : Value).ownBlock ∧ some k_ ≠ (v482 : Value).ownBlock ∧ some k_ ≠ (v494 : Value).ownBlock ∧ some k_ ≠ ((.slice Ao32 t496.length co32) : Value).ownBlock ∧ some k_ ≠ ((.slice Ao36 t505.length co36) : Value).ownBlock ∧ some k_ ≠ (v511 : Value).ownBlock ∧ some k_ ≠ ((.slice Ao40 t517.length co40) : Value).ownBlock) (.slice Ao28 t484.length co28) t484) ∧ Aside0 (Kd.R k41 41 wc w.heap.size (fun k_ => some k_ ≠ ((.slice Ao24 t473.length co24) : Value).ownBlock ∧ some k_ ≠ (v478 : Value).ownBlock ∧ some k_ ≠ (v482 : Value).ownBlock ∧ some k_ ≠ ((.slice Ao28 t484.length co28) : Value).ownBlock ∧ some k_ ≠ ((.slice Ao32 t496.length co32) : Value).ownBlock ∧ some k_ ≠ ((.slice Ao36 t505.length co36) : Value).ownBlock ∧ some k_ ≠ (v511 : Value).ownBlock ∧ some k_ ≠ ((.slice Ao40 t517.length co40) : Value).ownBlock) v494 t492) ∧ Aside0 (Kd.R k41 41 wc w.heap.size (fun k_ => some k_ ≠ ((.slice Ao24 t473.length co24) : Value).ownBlock ∧ some k_ ≠ (v478 : Value).ownBlock ∧ some k_ ≠ (v482 : Value).ownBlock ∧ some k_ ≠ ((.slice Ao28 t484.length co28) : Value).ownBlock ∧ some k_ ≠ (v494 : Value).ownBlock ∧ some k_ ≠ ((.slice Ao36 t505.length co36) : Value).ownBlock ∧ some k_ ≠ (v511 : Value).ownBlock ∧ some k_ ≠ ((.slice Ao40 t517.length co40) : Value).ownBlock) (.slice Ao32 t496.length co32) t496) ∧ Aside0 (Kd.R k41 41 wc w.heap.size (fun k_ => some k_ ≠ ((.slice Ao24 t473.length co24) : Value).ownBlock ∧ some k_ ≠ (v478 : Value).ownBlock ∧ some k_ ≠ (v482 : Value).ownBlock ∧ some k_ ≠ ((.slice Ao28 t484.length co28) : Value).ownBlock ∧ some k_ ≠ (v494 : Value).ownBlock ∧ some k_ ≠ ((.slice Ao32 t496.length co32) : Value).ownBlock ∧ some k_ ≠ (v511 : Value).ownBlock ∧ some k_ ≠ ((.slice Ao40 t517.length co40) : Value).ownBlock) (.slice Ao36 t505.length co36) t505) ∧ Aside0 (Kd.R k41 41 wc w.heap.size (fun k_ => some k_ ≠ ((.slice Ao24 t473.length co24) : Value).ownBlock ∧ some k_ ≠ (v478 : Value).ownBlock ∧ some k_ ≠ (v482 : Value).ownBlock ∧ some k_ ≠ ((.slice Ao28 t484.length co28) : Value).ownBlock ∧ some k_ ≠ (v494 : Value).ownBlock ∧ some k_ ≠ ((.slice Ao32 t496.length co32) : Value).ownBlock ∧ some k_ ≠ ((.slice Ao36 t505.length co36) : Value).ownBlock ∧ some k_ ≠ ((.slice Ao40 t517.length co40) : Value).ownBlock) v511 t509) ∧ Aside0 (Kd.R k41 41 wc w.heap.size (fun k_ => some k_ ≠ ((.slice Ao24 t473.length co24) : Value).ownBlock ∧ some k_ ≠ (v478 : Value).ownBlock ∧ some k_ ≠ (v482 : Value).ownBlock ∧ some k_ ≠ ((.slice Ao28 t484.length co28) : Value).ownBlock ∧ some k_ ≠ (v494 : Value).ownBlock ∧ some k_ ≠ ((.slice Ao32 t496.length co32) : Value).ownBlock ∧ some k_ ≠ ((.slice Ao36 t505.length co36) : Value).ownBlock ∧ some k_ ≠ (v511 : Value).ownBlock) (.slice Ao40 t517.length co40) t517) ∧ Aside0 (Below w.heap.size w wc))
  case first => as_aux_lemma =>
   have H := HC22.out
   clear HC22
   by_cases c47 : (t477 != t481) = true
   ·rw [if_pos c47] at H
    exact (laws_FnTempoChanges_j0_df hrt_ H).elim
   ·rw [if_neg c47] at H
    have c47b0 : (t477 != t481) = false := by simpa using c47
    (try (have c47b1 : decide (t477 = t481) = true := by simpa using c47))
    (try (have c47b2 : (t477 == t481) = true := by simpa using c47))
    clear c47
    (first | rw [c47b0] | (simp only [i64_w, i32_w]; rw [c47b0]) | skip)
    replace H := Option.bind_eq_some_iff.mp H
    obtain ⟨t536, A480, H⟩ := H
    try dsimp only at H
    have A48 := M_ A480
    clear A480
    by_cases c49 : t536 = true
    ·subst c49
     have H1 : (if (t489 != t493) = true then (laws_FnTempoChanges.j0 k t473 t476 t477 t480 t484 t485 t489 t492 t496 t497 t498 t502 t503 t505 t506 t509 t510 t517 t518 t519 t524 t525 t526 true) else ((laws_qTempos.f k t488 t492).bind fun t537 => (if t537 = true then (if (t502 != t504) = true then (laws_FnTempoChanges.j0 k t473 t476 t477 t480 t484 t485 t489 t492 t496 t497 t498 t502 t503 t505 t506 t509 t510 t517 t518 t519 t524 t525 t526 true) else (if t501 = t503 then (if (t510 != t514) = true then (laws_FnTempoChanges.j0 k t473 t476 t477 t480 t484 t485 t489 t492 t496 t497 t498 t502 t503 t505 t506 t509 t510 t517 t518 t519 t524 t525 t526 true) else ((laws_qTempos.f k t509 t513).bind fun t538 => (if t538 = true then (if (t524 != t527) = true then (laws_FnTempoChanges.j0 k t473 t476 t477 t480 t484 t485 t489 t492 t496 t497 t498 t502 t503 t505 t506 t509 t510 t517 t518 t519 t524 t525 t526 true) else (if t522 = t525 then (if t523 = t526 then (if (t533 != t535) = true then (laws_FnTempoChanges.j0 k t473 t476 t477 t480 t484 t485 t489 t492 t496 t497 t498 t502 t503 t505 t506 t509 t510 t517 t518 t519 t524 t525 t526 true) else (if t532 = t534 then ((impl_AreTempos.f k t473).bind fun t539 => (laws_FnTempoChanges.j0 k t473 t476 t477 t480 t484 t485 t489 t492 t496 t497 t498 t502 t503 t505 t506 t509 t510 t517 t518 t519 t524 t525 t526 (t539 != t477))) else (laws_FnTempoChanges.j0 k t473 t476 t477 t480 t484 t485 t489 t492 t496 t497 t498 t502 t503 t505 t506 t509 t510 t517 t518 t519 t524 t525 t526 true))) else (laws_FnTempoChanges.j0 k t473 t476 t477 t480 t484 t485 t489 t492 t496 t497 t498 t502 t503 t505 t506 t509 t510 t517 t518 t519 t524 t525 t526 true)) else (laws_FnTempoChanges.j0 k t473 t476 t477 t480 t484 t485 t489 t492 t496 t497 t498 t502 t503 t505 t506 t509 t510 t517 t518 t519 t524 t525 t526 true))) else (laws_FnTempoChanges.j0 k t473 t476 t477 t480 t484 t485 t489 t492 t496 t497 t498 t502 t503 t505 t506 t509 t510 t517 t518 t519 t524 t525 t526 true)))) else (laws_FnTempoChanges.j0 k t473 t476 t477 t480 t484 t485 t489 t492 t496 t497 t498 t502 t503 t505 t506 t509 t510 t517 t518 t519 t524 t525 t526 true))) else (laws_FnTempoChanges.j0 k t473 t476 t477 t480 t484 t485 t489 t492 t496 t497 t498 t502 t503 t505 t506 t509 t510 t517 t518 t519 t524 t525 t526 true)))) = some r := by rw [if_pos rfl] at H; exact H
     clear H
     have H := H1
     clear H1
     by_cases c50 : (t489 != t493) = true
     ·rw [if_pos c50] at H
      exact (laws_FnTempoChanges_j0_df hrt_ H).elim
     ·rw [if_neg c50] at H
      have c50b0 : (t489 != t493) = false := by simpa using c50
      (try (have c50b1 : decide (t489 = t493) = true := by simpa using c50))
      (try (have c50b2 : (t489 == t493) = true := by simpa using c50))
      clear c50
      replace H := Option.bind_eq_some_iff.mp H
      obtain ⟨t537, A530, H⟩ := H
      try dsimp only at H
      have A53 := M_ A530
      clear A530
      by_cases c54 : t537 = true
      ·subst c54
       have H1 : (if (t502 != t504) = true then (laws_FnTempoChanges.j0 k t473 t476 t477 t480 t484 t485 t489 t492 t496 t497 t498 t502 t503 t505 t506 t509 t510 t517 t518 t519 t524 t525 t526 true) else (if t501 = t503 then (if (t510 != t514) = true then (laws_FnTempoChanges.j0 k t473 t476 t477 t480 t484 t485 t489 t492 t496 t497 t498 t502 t503 t505 t506 t509 t510 t517 t518 t519 t524 t525 t526 true) else ((laws_qTempos.f k t509 t513).bind fun t538 => (if t538 = true then (if (t524 != t527) = true then (laws_FnTempoChanges.j0 k t473 t476 t477 t480 t484 t485 t489 t492 t496 t497 t498 t502 t503 t505 t506 t509 t510 t517 t518 t519 t524 t525 t526 true) else (if t522 = t525 then (if t523 = t526 then (if (t533 != t535) = true then (laws_FnTempoChanges.j0 k t473 t476 t477 t480 t484 t485 t489 t492 t496 t497 t498 t502 t503 t505 t506 t509 t510 t517 t518 t519 t524 t525 t526 true) else (if t532 = t534 then ((impl_AreTempos.f k t473).bind fun t539 => (laws_FnTempoChanges.j0 k t473 t476 t477 t480 t484 t485 t489 t492 t496 t497 t498 t502 t503 t505 t506 t509 t510 t517 t518 t519 t524 t525 t526 (t539 != t477))) else (laws_FnTempoChanges.j0 k t473 t476 t477 t480 t484 t485 t489 t492 t496 t497 t498 t502 t503 t505 t506 t509 t510 t517 t518 t519 t524 t525 t526 true))) else (laws_FnTempoChanges.j0 k t473 t476 t477 t480 t484 t485 t489 t492 t496 t497 t498 t502 t503 t505 t506 t509 t510 t517 t518 t519 t524 t525 t526 true)) else (laws_FnTempoChanges.j0 k t473 t476 t477 t480 t484 t485 t489 t492 t496 t497 t498 t502 t503 t505 t506 t509 t510 t517 t518 t519 t524 t525 t526 true))) else (laws_FnTempoChanges.j0 k t473 t476 t477 t480 t484 t485 t489 t492 t496 t497 t498 t502 t503 t505 t506 t509 t510 t517 t518 t519 t524 t525 t526 true)))) else (laws_FnTempoChanges.j0 k t473 t476 t477 t480 t484 t485 t489 t492 t496 t497 t498 t502 t503 t505 t506 t509 t510 t517 t518 t519 t524 t525 t526 true))) = some r := by rw [if_pos rfl] at H; exact H
       clear H
       have H := H1
       clear H1
       by_cases c55 : (t502 != t504) = true
       ·rw [if_pos c55] at H
        exact (laws_FnTempoChanges_j0_df hrt_ H).elim
       ·rw [if_neg c55] at H
        have c55b0 : (t502 != t504) = false := by simpa using c55
        (try (have c55b1 : decide (t502 = t504) = true := by simpa using c55))
        (try (have c55b2 : (t502 == t504) = true := by simpa using c55))
        clear c55
        by_cases c60 : t501 = t503
        ·rw [if_pos c60] at H
         have c60b0 : (t501 == t503) = true := beq_iff_eq.mpr c60
         have c60b1 : (t501 != t503) = false := bne_eq_false_iff_eq.mpr c60
         clear c60
         by_cases c61 : (t510 != t514) = true
         ·rw [if_pos c61] at H
          exact (laws_FnTempoChanges_j0_df hrt_ H).elim
         ·rw [if_neg c61] at H
          have c61b0 : (t510 != t514) = false := by simpa using c61
          (try (have c61b1 : decide (t510 = t514) = true := by simpa using c61))
          (try (have c61b2 : (t510 == t514) = true := by simpa using c61))
          clear c61
          replace H := Option.bind_eq_some_iff.mp H
          obtain ⟨t538, A660, H⟩ := H
          try dsimp only at H
          have A66 := M_ A660
          clear A660
          by_cases c67 : t538 = true
          ·subst c67
           have H1 : (if (t524 != t527) = true then (laws_FnTempoChanges.j0 k t473 t476 t477 t480 t484 t485 t489 t492 t496 t497 t498 t502 t503 t505 t506 t509 t510 t517 t518 t519 t524 t525 t526 true) else (if t522 = t525 then (if t523 = t526 then (if (t533 != t535) = true then (laws_FnTempoChanges.j0 k t473 t476 t477 t480 t484 t485 t489 t492 t496 t497 t498 t502 t503 t505 t506 t509 t510 t517 t518 t519 t524 t525 t526 true) else (if t532 = t534 then ((impl_AreTempos.f k t473).bind fun t539 => (laws_FnTempoChanges.j0 k t473 t476 t477 t480 t484 t485 t489 t492 t496 t497 t498 t502 t503 t505 t506 t509 t510 t517 t518 t519 t524 t525 t526 (t539 != t477))) else (laws_FnTempoChanges.j0 k t473 t476 t477 t480 t484 t485 t489 t492 t496 t497 t498 t502 t503 t505 t506 t509 t510 t517 t518 t519 t524 t525 t526 true))) else (laws_FnTempoChanges.j0 k t473 t476 t477 t480 t484 t485 t489 t492 t496 t497 t498 t502 t503 t505 t506 t509 t510 t517 t518 t519 t524 t525 t526 true)) else (laws_FnTempoChanges.j0 k t473 t476 t477 t480 t484 t485 t489 t492 t496 t497 t498 t502 t503 t505 t506 t509 t510 t517 t518 t519 t524 t525 t526 true))) = some r := by rw [if_pos rfl] at H; exact H
           clear H
           have H := H1
           clear H1
           by_cases c68 : (t524 != t527) = true
           ·rw [if_pos c68] at H
            exact (laws_FnTempoChanges_j0_df hrt_ H).elim
           ·rw [if_neg c68] at H
            have c68b0 : (t524 != t527) = false := by simpa using c68
            (try (have c68b1 : decide (t524 = t527) = true := by simpa using c68))
            (try (have c68b2 : (t524 == t527) = true := by simpa using c68))
            clear c68
            by_cases c75 : t522 = t525
            ·rw [if_pos c75] at H
             have c75b0 : (t522 == t525) = true := beq_iff_eq.mpr c75
             have c75b1 : (t522 != t525) = false := bne_eq_false_iff_eq.mpr c75
             clear c75
             by_cases c76 : t523 = t526
             ·rw [if_pos c76] at H
              have c76b0 : (t523 == t526) = true := beq_iff_eq.mpr c76
              have c76b1 : (t523 != t526) = false := bne_eq_false_iff_eq.mpr c76
              clear c76
              by_cases c77 : (t533 != t535) = true
              ·rw [if_pos c77] at H
               exact (laws_FnTempoChanges_j0_df hrt_ H).elim
              ·rw [if_neg c77] at H
               have c77b0 : (t533 != t535) = false := by simpa using c77
               (try (have c77b1 : decide (t533 = t535) = true := by simpa using c77))
               (try (have c77b2 : (t533 == t535) = true := by simpa using c77))
               clear c77
               by_cases c84 : t532 = t534
               ·rw [if_pos c84] at H
                have c84b0 : (t532 == t534) = true := beq_iff_eq.mpr c84
                have c84b1 : (t532 != t534) = false := bne_eq_false_iff_eq.mpr c84
                clear c84
                replace H := Option.bind_eq_some_iff.mp H
                obtain ⟨t539, A850, H⟩ := H
                try dsimp only at H
                have A85 := M_ A850
                clear A850
                have H' := M_ H
                clear H
                obtain ⟨Ao86, co86, eo86⟩ := Kd.R_slice HO479.out
                subst eo86
                obtain ⟨Ao87, co87, eo87⟩ := Kd.R_slice HO483.out
                subst eo87
                go_wp2_with (first | (go_at_call 26; (with_reducible refine (laws_qTempos.calls k _ _ t476 _ _ t480 true _ ?side1 ?side2 ?side3 ?side4 A48.out).mono ?_); (case side1 => exact cU_ (Kd.R_reads' HO479.out).2.2); (case side2 => exact (Kd.R_reads' HO479.out).2.1); (case side3 => exact cU_ (Kd.R_reads' HO483.out).2.2); (case side4 => exact (Kd.R_reads' HO483.out).2.1); rintro e w' ⟨rfl, ⟨nd, rfl⟩⟩; obtain ⟨Ao88, co88, eo88⟩ := Kd.R_slice HO491.out; subst eo88; obtain ⟨Ao89, co89, eo89⟩ := Kd.R_slice HO495.out; subst eo89) | (go_at_call 26; (with_reducible refine (laws_qTempos.calls k _ _ t488 _ _ t492 true _ ?side1 ?side2 ?side3 ?side4 A53.out).mono ?_); (case side1 => exact cU_ (Kd.R_reads' HO491.out).2.2); (case side2 => exact (Kd.R_reads' HO491.out).2.1); (case side3 => exact cU_ (Kd.R_reads' HO495.out).2.2); (case side4 => exact (Kd.R_reads' HO495.out).2.1); rintro e w' ⟨rfl, ⟨nd, rfl⟩⟩; obtain ⟨Ao90, co90, eo90⟩ := Kd.R_slice HO512.out; subst eo90; obtain ⟨Ao91, co91, eo91⟩ := Kd.R_slice HO516.out; subst eo91) | (go_at_call 26; (with_reducible refine (laws_qTempos.calls k _ _ t509 _ _ t513 true _ ?side1 ?side2 ?side3 ?side4 A66.out).mono ?_); (case side1 => exact cU_ (Kd.R_reads' HO512.out).2.2); (case side2 => exact (Kd.R_reads' HO512.out).2.1); (case side3 => exact cU_ (Kd.R_reads' HO516.out).2.2); (case side4 => exact (Kd.R_reads' HO516.out).2.1); rintro e w' ⟨rfl, ⟨nd, rfl⟩⟩) | (go_at_call 27; (with_reducible refine (impl_AreTempos.calls k _ _ t473 t539 _ ?side1 ?side2 A85.out).mono ?_); (case side1 => exact cU_ (Kd.R_reads' HO475.out).2.2); (case side2 => exact (Kd.R_reads' HO475.out).2.1); rintro e w92 ⟨rfl, hb⟩; have n0_ := M_ (rb_ (rU_ HO475.out) hb); have n1_ := M_ (rb_ (rU_ HO479.out) hb); have n2_ := M_ (rb_ (rU_ HO483.out) hb); have n3_ := M_ (rb_ (rU_ HO487.out) hb); have n4_ := M_ (rb_ (rU_ HO491.out) hb); have n5_ := M_ (rb_ (rU_ HO495.out) hb); have n6_ := M_ (rb_ (rU_ HO500.out) hb); have n7_ := M_ (rb_ (rU_ HO508.out) hb); have n8_ := M_ (rb_ (rU_ HO512.out) hb); have n9_ := M_ (rb_ (rU_ HO516.out) hb); have n10_ := M_ (rb_ (rU_ HO521.out) hb); have n11_ := M_ (rb_ (rU_ HO531.out) hb); have n12_ := M_ (bS_ hb); clear HO475; clear HO479; clear HO483; clear HO487; clear HO491; clear HO495; clear HO500; clear HO508; clear HO512; clear HO516; clear HO521; clear HO531; clear HB; have HO475 := n0_; have HO479 := n1_; have HO483 := n2_; have HO487 := n3_; have HO491 := n4_; have HO495 := n5_; have HO500 := n6_; have HO508 := n7_; have HO512 := n8_; have HO516 := n9_; have HO521 := n10_; have HO531 := n11_; have HB := n12_; clear n0_ n1_ n2_ n3_ n4_ n5_ n6_ n7_ n8_ n9_ n10_ n11_ n12_; (try clear hb); (try clear hb2); (try clear hk); (try clear hi)))
                go_meet
                case rel => exact ⟨_, ((t539 != t477)), (by first | rfl | (simp; done) | (simp [*]; done)), H', ⟨by first | omega | exact Nat.le_refl _⟩, ⟨by (with_reducible repeat (first | apply ra_ | apply rn_ | apply rd_)); exact rm_ HO475.out (fun _ hk => ⟨hk.1.1.1.1.1.1.1.1.1.1.2, ⟨hk.1.1.1.1.1.1.1.1.1.2, ⟨hk.1.1.1.1.1.1.1.1.2, ⟨hk.1.1.1.1.1.1.2, ⟨hk.1.1.1.1.1.2, ⟨hk.1.1.1.1.2, ⟨hk.1.1.1.2, hk.1.2⟩⟩⟩⟩⟩⟩⟩)⟩, ⟨by (with_reducible repeat (first | apply ra_ | apply rn_ | apply rd_)); exact rm_ HO479.out (fun _ hk => ⟨hk.1.1.1.1.1.1.1.1.1.1.2, ⟨hk.1.1.1.1.1.1.1.1.1.2, ⟨hk.1.1.1.1.1.1.1.1.2, ⟨hk.1.1.1.1.1.1.2, ⟨hk.1.1.1.1.1.2, ⟨hk.1.1.1.1.2, ⟨hk.1.1.1.2, hk.1.2⟩⟩⟩⟩⟩⟩⟩)⟩, ⟨by (with_reducible repeat (first | apply ra_ | apply rn_ | apply rd_)); exact rm_ HO483.out (fun _ hk => ⟨hk.1.1.1.1.1.1.1.1.1.1.2, ⟨hk.1.1.1.1.1.1.1.1.1.2, ⟨hk.1.1.1.1.1.1.1.1.2, ⟨hk.1.1.1.1.1.1.2, ⟨hk.1.1.1.1.1.2, ⟨hk.1.1.1.1.2, ⟨hk.1.1.1.2, hk.1.2⟩⟩⟩⟩⟩⟩⟩)⟩, ⟨by (with_reducible repeat (first | apply ra_ | apply rn_ | apply rd_)); exact rm_ HO487.out (fun _ hk => ⟨hk.1.1.1.1.1.1.1.1.1.1.2, ⟨hk.1.1.1.1.1.1.1.1.1.2, ⟨hk.1.1.1.1.1.1.1.1.2, ⟨hk.1.1.1.1.1.1.2, ⟨hk.1.1.1.1.1.2, ⟨hk.1.1.1.1.2, ⟨hk.1.1.1.2, hk.1.2⟩⟩⟩⟩⟩⟩⟩)⟩, ⟨by (with_reducible repeat (first | apply ra_ | apply rn_ | apply rd_)); exact rm_ HO495.out (fun _ hk => ⟨hk.1.1.1.1.1.1.1.1.1.1.2, ⟨hk.1.1.1.1.1.1.1.1.1.2, ⟨hk.1.1.1.1.1.1.1.1.2, ⟨hk.1.1.1.1.1.1.1.2, ⟨hk.1.1.1.1.1.2, ⟨hk.1.1.1.1.2, ⟨hk.1.1.1.2, hk.1.2⟩⟩⟩⟩⟩⟩⟩)⟩, ⟨by (with_reducible repeat (first | apply ra_ | apply rn_ | apply rd_)); exact rm_ HO500.out (fun _ hk => ⟨hk.1.1.1.1.1.1.1.1.1.1.2, ⟨hk.1.1.1.1.1.1.1.1.1.2, ⟨hk.1.1.1.1.1.1.1.1.2, ⟨hk.1.1.1.1.1.1.1.2, ⟨hk.1.1.1.1.1.2, ⟨hk.1.1.1.1.2, ⟨hk.1.1.1.2, hk.1.2⟩⟩⟩⟩⟩⟩⟩)⟩, ⟨by (with_reducible repeat (first | apply ra_ | apply rn_ | apply rd_)); exact rm_ HO508.out (fun _ hk => ⟨hk.1.1.1.1.1.1.1.1.1.1.2, ⟨hk.1.1.1.1.1.1.1.1.1.2, ⟨hk.1.1.1.1.1.1.1.1.2, ⟨hk.1.1.1.1.1.1.1.2, ⟨hk.1.1.1.1.1.2, ⟨hk.1.1.1.1.2, ⟨hk.1.1.1.2, hk.1.2⟩⟩⟩⟩⟩⟩⟩)⟩, ⟨by (with_reducible repeat (first | apply ra_ | apply rn_ | apply rd_)); exact rm_ HO512.out (fun _ hk => ⟨hk.1.1.1.1.1.1.1.1.1.1.2, ⟨hk.1.1.1.1.1.1.1.1.1.2, ⟨hk.1.1.1.1.1.1.1.1.2, ⟨hk.1.1.1.1.1.1.1.2, ⟨hk.1.1.1.1.1.2, ⟨hk.1.1.1.1.2, ⟨hk.1.1.1.2, hk.1.2⟩⟩⟩⟩⟩⟩⟩)⟩, ⟨by (with_reducible repeat (first | apply ra_ | apply rn_ | apply rd_)); exact rm_ HO521.out (fun _ hk => ⟨hk.1.1.1.1.1.1.1.1.1.1.2, ⟨hk.1.1.1.1.1.1.1.1.1.2, ⟨hk.1.1.1.1.1.1.1.1.2, ⟨hk.1.1.1.1.1.1.1.2, ⟨hk.1.1.1.1.1.2, ⟨hk.1.1.1.1.2, ⟨hk.1.1.1.2, hk.1.1.2⟩⟩⟩⟩⟩⟩⟩)⟩, bA_⟩
               ·rw [if_neg c84] at H
                exact (laws_FnTempoChanges_j0_df hrt_ H).elim
             ·rw [if_neg c76] at H
              exact (laws_FnTempoChanges_j0_df hrt_ H).elim
            ·rw [if_neg c75] at H
             exact (laws_FnTempoChanges_j0_df hrt_ H).elim
          ·replace c67 := Bool.eq_false_iff.mpr c67
           subst c67
           have H1 : (laws_FnTempoChanges.j0 k t473 t476 t477 t480 t484 t485 t489 t492 t496 t497 t498 t502 t503 t505 t506 t509 t510 t517 t518 t519 t524 t525 t526 true) = some r := by rw [if_neg (show ¬ (false = true) by decide)] at H; exact H
           exact (laws_FnTempoChanges_j0_df hrt_ H1).elim
        ·rw [if_neg c60] at H
         exact (laws_FnTempoChanges_j0_df hrt_ H).elim
      ·replace c54 := Bool.eq_false_iff.mpr c54
       subst c54
       have H1 : (laws_FnTempoChanges.j0 k t473 t476 t477 t480 t484 t485 t489 t492 t496 t497 t498 t502 t503 t505 t506 t509 t510 t517 t518 t519 t524 t525 t526 true) = some r := by rw [if_neg (show ¬ (false = true) by decide)] at H; exact H
       exact (laws_FnTempoChanges_j0_df hrt_ H1).elim
    ·replace c49 := Bool.eq_false_iff.mpr c49
     subst c49
     have H1 : (laws_FnTempoChanges.j0 k t473 t476 t477 t480 t484 t485 t489 t492 t496 t497 t498 t502 t503 t505 t506 t509 t510 t517 t518 t519 t524 t525 t526 true) = some r := by rw [if_neg (show ¬ (false = true) by decide)] at H; exact H
     exact (laws_FnTempoChanges_j0_df hrt_ H1).elim
  case rest => as_aux_lemma =>
   clear HC22
   try clear c1
   try clear c2
   try clear p2
   try clear c3
   try clear c3b0
   try clear c4
   try clear c5
   try clear c6
   try clear p6
   try clear c7
   try clear c8
   try clear c9
   try clear c10
   try clear c11
   try clear c12
   try clear c13
   try clear c14
   try clear c15
   try clear c16
   try clear c17
   try clear c18
   try clear c19
   try clear c20
   try clear c21
   try clear c22
   try clear c23
   try clear c24
   try clear c25
   try clear c47
   try clear c47b0
   try clear c47b1
   try clear c47b2
   try clear c49
   try clear c50
   try clear c50b0
   try clear c50b1
   try clear c50b2
   try clear c54
   try clear c55
   try clear c55b0
   try clear c55b1
   try clear c55b2
   try clear c60
   try clear c60b0
   try clear c60b1
   try clear c61
   try clear c61b0
   try clear c61b1
   try clear c61b2
   try clear p64
   try clear c67
   try clear c68
   try clear c68b0
   try clear c68b1
   try clear c68b2
   try clear c75
   try clear c75b0
   try clear c75b1
   try clear c76
   try clear c76b0
   try clear c76b1
   try clear c77
   try clear c77b0
   try clear c77b1
   try clear c77b2
   try clear c84
   try clear c84b0
   try clear c84b1
   obtain ⟨kq, x242_21, rfl, HA, HJ21, HO_5, HO_6, HO_8, HO_10, HO_14, HO_16, HO_23, HO_25, HO_29, HB⟩ := hcut
   cases kq with
   | zero => exact absurd HA.out (by simp [laws_FnTempoChanges.j0])
   | succ kj21 =>
    have H := HA.out
    clear HA
    simp only [laws_FnTempoChanges.j0] at H
    by_cases c127 : x242_21 = true
    ·subst c127
     have H1 : (some false) = some r := by rw [if_pos rfl] at H; exact H
     exact (df_ hrt_ H1).elim
    ·replace c127 := Bool.eq_false_iff.mpr c127
     subst c127
     have H1 : (if t489 = true then (if t485 = 100 then ((laws_qTempos.f kj21 t492 t484).bind fun t540 => (laws_FnTempoChanges.j1 kj21 t473 t476 t477 t480 t496 t497 t498 t502 t503 t505 t506 t509 t510 t517 t518 t519 t524 t525 t526 (!t540))) else (laws_FnTempoChanges.j1 kj21 t473 t476 t477 t480 t496 t497 t498 t502 t503 t505 t506 t509 t510 t517 t518 t519 t524 t525 t526 false)) else (laws_FnTempoChanges.j1 kj21 t473 t476 t477 t480 t496 t497 t498 t502 t503 t505 t506 t509 t510 t517 t518 t519 t524 t525 t526 false)) = some r := by rw [if_neg (show ¬ (false = true) by decide)] at H; exact H
     clear H
     have H := H1
     clear H1
     have HC128 := M_ H
     clear H
     go_upto_region 23 with (fail)
     go_cut [253] (fun v253 wc => ∃ (kq : Nat) (x253_127 : Bool), v253 = .bool x253_127 ∧ Aside0 (laws_FnTempoChanges.j1 kq t473 t476 t477 t480 t496 t497 t498 t502 t503 t505 t506 t509 t510 t517 t518 t519 t524 t525 t526 x253_127 = some r) ∧ Aside0 (kq ≤ kj21) ∧ Aside0 (Kd.R k41 41 wc w.heap.size (fun k_ => some k_ ≠ (v478 : Value).ownBlock ∧ some k_ ≠ (v482 : Value).ownBlock ∧ some k_ ≠ ((.slice Ao32 t496.length co32) : Value).ownBlock ∧ some k_ ≠ ((.slice Ao36 t505.length co36) : Value).ownBlock ∧ some k_ ≠ (v511 : Value).ownBlock ∧ some k_ ≠ ((.slice Ao40 t517.length co40) : Value).ownBlock) (.slice Ao24 t473.length co24) t473) ∧ Aside0 (Kd.R k41 41 wc w.heap.size (fun k_ => some k_ ≠ ((.slice Ao24 t473.length co24) : Value).ownBlock ∧ some k_ ≠ (v482 : Value).ownBlock ∧ some k_ ≠ ((.slice Ao32 t496.length co32) : Value).ownBlock ∧ some k_ ≠ ((.slice Ao36 t505.length co36) : Value).ownBlock ∧ some k_ ≠ (v511 : Value).ownBlock ∧ some k_ ≠ ((.slice Ao40 t517.length co40) : Value).ownBlock) v478 t476) ∧ Aside0 (Kd.R k41 41 wc w.heap.size (fun k_ => some k_ ≠ ((.slice Ao24 t473.length co24) : Value).ownBlock ∧ some k_ ≠ (v478 : Value).ownBlock ∧ some k_ ≠ ((.slice Ao32 t496.length co32) : Value).ownBlock ∧ some k_ ≠ ((.slice Ao36 t505.length co36) : Value).ownBlock ∧ some k_ ≠ (v511 : Value).ownBlock ∧ some k_ ≠ ((.slice Ao40 t517.length co40) : Value).ownBlock) v482 t480) ∧ Aside0 (Kd.R k41 41 wc w.heap.size (fun k_ => some k_ ≠ ((.slice Ao24 t473.length co24) : Value).ownBlock ∧ some k_ ≠ (v478 : Value).ownBlock ∧ some k_ ≠ (v482 : Value).ownBlock ∧ some k_ ≠ ((.slice Ao36 t505.length co36) : Value).ownBlock ∧ some k_ ≠ (v511 : Value).ownBlock ∧ some k_ ≠ ((.slice Ao40 t517.length co40) : Value).ownBlock) (.slice Ao32 t496.length co32) t496) ∧ Aside0 (Kd.R k41 41 wc w.heap.size (fun k_ => some k_ ≠ ((.slice Ao24 t473.length co24) : Value).ownBlock ∧ some k_ ≠ (v478 : Value).ownBlock ∧ some k_ ≠ (v482 : Value).ownBlock ∧ some k_ ≠ ((.slice Ao32 t496.length co32) : Value).ownBlock ∧ some k_ ≠ (v511 : Value).ownBlock ∧ some k_ ≠ ((.slice Ao40 t517.length co40) : Value).ownBlock) (.slice Ao36 t505.length co36) t505) ∧ Aside0 (Kd.R k41 41 wc w.heap.size (fun k_ => some k_ ≠ ((.slice Ao24 t473.length co24) : Value).ownBlock ∧ some k_ ≠ (v478 : Value).ownBlock ∧ some k_ ≠ (v482 : Value).ownBlock ∧ some k_ ≠ ((.slice Ao32 t496.length co32) : Value).ownBlock ∧ some k_ ≠ ((.slice Ao36 t505.length co36) : Value).ownBlock ∧ some k_ ≠ ((.slice Ao40 t517.length co40) : Value).ownBlock) v511 t509) ∧ Aside0 (Kd.R k41 41 wc w.heap.size (fun k_ => some k_ ≠ ((.slice Ao24 t473.length co24) : Value).ownBlock ∧ some k_ ≠ (v478 : Value).ownBlock ∧ some k_ ≠ (v482 : Value).ownBlock ∧ some k_ ≠ ((.slice Ao32 t496.length co32) : Value).ownBlock ∧ some k_ ≠ ((.slice Ao36 t505.length co36) : Value).ownBlock ∧ some k_ ≠ (v511 : Value).ownBlock) (.slice Ao40 t517.length co40) t517) ∧ Aside0 (Below w.heap.size w wc))
     case first => as_aux_lemma =>
      have H := HC128.out
      clear HC128
      by_cases c129 : t489 = true
      ·subst c129
       have H1 : (if t485 = 100 then ((laws_qTempos.f kj21 t492 t484).bind fun t540 => (laws_FnTempoChanges.j1 kj21 t473 t476 t477 t480 t496 t497 t498 t502 t503 t505 t506 t509 t510 t517 t518 t519 t524 t525 t526 (!t540))) else (laws_FnTempoChanges.j1 kj21 t473 t476 t477 t480 t496 t497 t498 t502 t503 t505 t506 t509 t510 t517 t518 t519 t524 t525 t526 false)) = some r := by rw [if_pos rfl] at H; exact H
       clear H
       have H := H1
       clear H1
       by_cases c130 : t485 = 100
       ·rw [if_pos c130] at H
        have c130b0 : (t485 == 100) = true := beq_iff_eq.mpr c130
        have c130b1 : (t485 != 100) = false := bne_eq_false_iff_eq.mpr c130
        clear c130
        (first | rw [c130b0] | (simp only [i64_w, i32_w]; rw [c130b0]) | skip)
        replace H := Option.bind_eq_some_iff.mp H
        obtain ⟨t540, A1310, H⟩ := H
        try dsimp only at H
        have A131 := M_ A1310
        clear A1310
        have H' := M_ H
        clear H
        obtain ⟨Ao132, co132, eo132⟩ := Kd.R_slice HO_14.out
        subst eo132
        go_wp2_with (first | (go_at_call 26; (with_reducible refine (laws_qTempos.calls kj21 _ _ t492 _ _ t484 t540 _ ?side1 ?side2 ?side3 ?side4 A131.out).mono ?_); (case side1 => exact cU_ (Kd.R_reads' HO_14.out).2.2); (case side2 => exact (Kd.R_reads' HO_14.out).2.1); (case side3 => exact cU_ (Kd.R_reads' HO_10.out).2.2); (case side4 => exact (Kd.R_reads' HO_10.out).2.1); rintro e w' ⟨rfl, ⟨nd, rfl⟩⟩))
        go_meet
        case rel => exact ⟨_, (!t540), (by first | rfl | (simp; done) | (simp [*]; done)), H', ⟨by have := HJ21.out; first | omega | exact Nat.le_refl _⟩, ⟨by (with_reducible repeat (first | apply ra_ | apply rn_ | apply rd_)); exact rm_ HO_5.out (fun _ hk => ⟨hk.1, ⟨hk.2.1, ⟨hk.2.2.2.2.1, ⟨hk.2.2.2.2.2.1, ⟨hk.2.2.2.2.2.2.1, hk.2.2.2.2.2.2.2⟩⟩⟩⟩⟩)⟩, ⟨by (with_reducible repeat (first | apply ra_ | apply rn_ | apply rd_)); exact rm_ HO_6.out (fun _ hk => ⟨hk.1, ⟨hk.2.1, ⟨hk.2.2.2.2.1, ⟨hk.2.2.2.2.2.1, ⟨hk.2.2.2.2.2.2.1, hk.2.2.2.2.2.2.2⟩⟩⟩⟩⟩)⟩, ⟨by (with_reducible repeat (first | apply ra_ | apply rn_ | apply rd_)); exact rm_ HO_8.out (fun _ hk => ⟨hk.1, ⟨hk.2.1, ⟨hk.2.2.2.2.1, ⟨hk.2.2.2.2.2.1, ⟨hk.2.2.2.2.2.2.1, hk.2.2.2.2.2.2.2⟩⟩⟩⟩⟩)⟩, ⟨by (with_reducible repeat (first | apply ra_ | apply rn_ | apply rd_)); exact rm_ HO_16.out (fun _ hk => ⟨hk.1, ⟨hk.2.1, ⟨hk.2.2.1, ⟨hk.2.2.2.2.2.1, ⟨hk.2.2.2.2.2.2.1, hk.2.2.2.2.2.2.2⟩⟩⟩⟩⟩)⟩, ⟨by (with_reducible repeat (first | apply ra_ | apply rn_ | apply rd_)); exact rm_ HO_23.out (fun _ hk => ⟨hk.1, ⟨hk.2.1, ⟨hk.2.2.1, ⟨hk.2.2.2.2.2.1, ⟨hk.2.2.2.2.2.2.1, hk.2.2.2.2.2.2.2⟩⟩⟩⟩⟩)⟩, ⟨by (with_reducible repeat (first | apply ra_ | apply rn_ | apply rd_)); exact rm_ HO_25.out (fun _ hk => ⟨hk.1, ⟨hk.2.1, ⟨hk.2.2.1, ⟨hk.2.2.2.2.2.1, ⟨hk.2.2.2.2.2.2.1, hk.2.2.2.2.2.2.2⟩⟩⟩⟩⟩)⟩, ⟨by (with_reducible repeat (first | apply ra_ | apply rn_ | apply rd_)); exact rm_ HO_29.out (fun _ hk => ⟨hk.1, ⟨hk.2.1, ⟨hk.2.2.1, ⟨hk.2.2.2.2.2.1, ⟨hk.2.2.2.2.2.2.1, hk.2.2.2.2.2.2.2⟩⟩⟩⟩⟩)⟩, bA_⟩
       ·rw [if_neg c130] at H
        have c130b0 : (t485 == 100) = false := beq_eq_false_iff_ne.mpr c130
        have c130b1 : (t485 != 100) = true := bne_iff_ne.mpr c130
        (first | rw [c130b0] | (simp only [i64_w, i32_w]; rw [c130b0]) | skip)
        have H' := M_ H
        clear H
        go_wp2
        go_meet
        case rel => exact ⟨_, (false), (by first | rfl | (simp; done) | (simp [*]; done)), H', ⟨by have := HJ21.out; first | omega | exact Nat.le_refl _⟩, ⟨by (with_reducible repeat (first | apply ra_ | apply rn_ | apply rd_)); exact rm_ HO_5.out (fun _ hk => ⟨hk.1, ⟨hk.2.1, ⟨hk.2.2.2.2.1, ⟨hk.2.2.2.2.2.1, ⟨hk.2.2.2.2.2.2.1, hk.2.2.2.2.2.2.2⟩⟩⟩⟩⟩)⟩, ⟨by (with_reducible repeat (first | apply ra_ | apply rn_ | apply rd_)); exact rm_ HO_6.out (fun _ hk => ⟨hk.1, ⟨hk.2.1, ⟨hk.2.2.2.2.1, ⟨hk.2.2.2.2.2.1, ⟨hk.2.2.2.2.2.2.1, hk.2.2.2.2.2.2.2⟩⟩⟩⟩⟩)⟩, ⟨by (with_reducible repeat (first | apply ra_ | apply rn_ | apply rd_)); exact rm_ HO_8.out (fun _ hk => ⟨hk.1, ⟨hk.2.1, ⟨hk.2.2.2.2.1, ⟨hk.2.2.2.2.2.1, ⟨hk.2.2.2.2.2.2.1, hk.2.2.2.2.2.2.2⟩⟩⟩⟩⟩)⟩, ⟨by (with_reducible repeat (first | apply ra_ | apply rn_ | apply rd_)); exact rm_ HO_16.out (fun _ hk => ⟨hk.1, ⟨hk.2.1, ⟨hk.2.2.1, ⟨hk.2.2.2.2.2.1, ⟨hk.2.2.2.2.2.2.1, hk.2.2.2.2.2.2.2⟩⟩⟩⟩⟩)⟩, ⟨by (with_reducible repeat (first | apply ra_ | apply rn_ | apply rd_)); exact rm_ HO_23.out (fun _ hk => ⟨hk.1, ⟨hk.2.1, ⟨hk.2.2.1, ⟨hk.2.2.2.2.2.1, ⟨hk.2.2.2.2.2.2.1, hk.2.2.2.2.2.2.2⟩⟩⟩⟩⟩)⟩, ⟨by (with_reducible repeat (first | apply ra_ | apply rn_ | apply rd_)); exact rm_ HO_25.out (fun _ hk => ⟨hk.1, ⟨hk.2.1, ⟨hk.2.2.1, ⟨hk.2.2.2.2.2.1, ⟨hk.2.2.2.2.2.2.1, hk.2.2.2.2.2.2.2⟩⟩⟩⟩⟩)⟩, ⟨by (with_reducible repeat (first | apply ra_ | apply rn_ | apply rd_)); exact rm_ HO_29.out (fun _ hk => ⟨hk.1, ⟨hk.2.1, ⟨hk.2.2.1, ⟨hk.2.2.2.2.2.1, ⟨hk.2.2.2.2.2.2.1, hk.2.2.2.2.2.2.2⟩⟩⟩⟩⟩)⟩, bA_⟩
      ·replace c129 := Bool.eq_false_iff.mpr c129
       subst c129
       have H1 : (laws_FnTempoChanges.j1 kj21 t473 t476 t477 t480 t496 t497 t498 t502 t503 t505 t506 t509 t510 t517 t518 t519 t524 t525 t526 false) = some r := by rw [if_neg (show ¬ (false = true) by decide)] at H; exact H
       clear H
       have H := H1
       clear H1
       have H' := M_ H
       clear H
       go_wp2
       go_meet
       case rel => exact ⟨_, (false), (by first | rfl | (simp; done) | (simp [*]; done)), H', ⟨by have := HJ21.out; first | omega | exact Nat.le_refl _⟩, ⟨by (with_reducible repeat (first | apply ra_ | apply rn_ | apply rd_)); exact rm_ HO_5.out (fun _ hk => ⟨hk.1, ⟨hk.2.1, ⟨hk.2.2.2.2.1, ⟨hk.2.2.2.2.2.1, ⟨hk.2.2.2.2.2.2.1, hk.2.2.2.2.2.2.2⟩⟩⟩⟩⟩)⟩, ⟨by (with_reducible repeat (first | apply ra_ | apply rn_ | apply rd_)); exact rm_ HO_6.out (fun _ hk => ⟨hk.1, ⟨hk.2.1, ⟨hk.2.2.2.2.1, ⟨hk.2.2.2.2.2.1, ⟨hk.2.2.2.2.2.2.1, hk.2.2.2.2.2.2.2⟩⟩⟩⟩⟩)⟩, ⟨by (with_reducible repeat (first | apply ra_ | apply rn_ | apply rd_)); exact rm_ HO_8.out (fun _ hk => ⟨hk.1, ⟨hk.2.1, ⟨hk.2.2.2.2.1, ⟨hk.2.2.2.2.2.1, ⟨hk.2.2.2.2.2.2.1, hk.2.2.2.2.2.2.2⟩⟩⟩⟩⟩)⟩, ⟨by (with_reducible repeat (first | apply ra_ | apply rn_ | apply rd_)); exact rm_ HO_16.out (fun _ hk => ⟨hk.1, ⟨hk.2.1, ⟨hk.2.2.1, ⟨hk.2.2.2.2.2.1, ⟨hk.2.2.2.2.2.2.1, hk.2.2.2.2.2.2.2⟩⟩⟩⟩⟩)⟩, ⟨by (with_reducible repeat (first | apply ra_ | apply rn_ | apply rd_)); exact rm_ HO_23.out (fun _ hk => ⟨hk.1, ⟨hk.2.1, ⟨hk.2.2.1, ⟨hk.2.2.2.2.2.1, ⟨hk.2.2.2.2.2.2.1, hk.2.2.2.2.2.2.2⟩⟩⟩⟩⟩)⟩, ⟨by (with_reducible repeat (first | apply ra_ | apply rn_ | apply rd_)); exact rm_ HO_25.out (fun _ hk => ⟨hk.1, ⟨hk.2.1, ⟨hk.2.2.1, ⟨hk.2.2.2.2.2.1, ⟨hk.2.2.2.2.2.2.1, hk.2.2.2.2.2.2.2⟩⟩⟩⟩⟩)⟩, ⟨by (with_reducible repeat (first | apply ra_ | apply rn_ | apply rd_)); exact rm_ HO_29.out (fun _ hk => ⟨hk.1, ⟨hk.2.1, ⟨hk.2.2.1, ⟨hk.2.2.2.2.2.1, ⟨hk.2.2.2.2.2.2.1, hk.2.2.2.2.2.2.2⟩⟩⟩⟩⟩)⟩, bA_⟩
     case rest => as_aux_lemma =>
      clear HC128
      try clear c1
      try clear c2
      try clear p2
      try clear c3
      try clear c3b0
      try clear c4
      try clear c5
      try clear c6
      try clear p6
      try clear c7
      try clear c8
      try clear c9
      try clear c10
      try clear c11
      try clear c12
      try clear c13
      try clear c14
      try clear c15
      try clear c16
      try clear c17
      try clear c18
      try clear c19
      try clear c20
      try clear c21
      try clear c22
      try clear c23
      try clear c24
      try clear c25
      try clear c47
      try clear c47b0
      try clear c47b1
      try clear c47b2
      try clear c49
      try clear c50
      try clear c50b0
      try clear c50b1
      try clear c50b2
      try clear c54
      try clear c55
      try clear c55b0
      try clear c55b1
      try clear c55b2
      try clear c60
      try clear c60b0
      try clear c60b1
      try clear c61
      try clear c61b0
      try clear c61b1
      try clear c61b2
      try clear p64
      try clear c67
      try clear c68
      try clear c68b0
      try clear c68b1
      try clear c68b2
      try clear c75
      try clear c75b0
      try clear c75b1
      try clear c76
      try clear c76b0
      try clear c76b1
      try clear c77
      try clear c77b0
      try clear c77b1
      try clear c77b2
      try clear c84
      try clear c84b0
      try clear c84b1
      try clear c127
      try clear c129
      try clear c130
      try clear c130b0
      try clear c130b1
      try clear p2
      try clear p6
      try clear p64
      obtain ⟨kq, x253_127, rfl, HA, HJ127, HO_5, HO_6, HO_8, HO_16, HO_23, HO_25, HO_29, HB⟩ := hcut
      cases kq with
      | zero => exact absurd HA.out (by simp [laws_FnTempoChanges.j1])
      | succ kj127 =>
       have H := HA.out
       clear HA
       simp only [laws_FnTempoChanges.j1] at H
       by_cases c133 : x253_127 = true
       ·subst c133
        have H1 : (some false) = some r := by rw [if_pos rfl] at H; exact H
        exact (df_ hrt_ H1).elim
       ·replace c133 := Bool.eq_false_iff.mpr c133
        subst c133
        have H1 : (if t502 = true then ((impl_TimeBetween.f kj127 t496 t497 t498).bind fun bt541 => (if bt541.2 = true then (if (wrap64 (t503 * (wrap64 (t498 - t497)))) > bt541.1 then (some false) else (if (wrap64 ((wrap64 (t503 + 1)) * (wrap64 (t498 - t497)))) ≤ bt541.1 then (some false) else (laws_FnTempoChanges.j2 kj127 t473 t476 t477 t480 t505 t506 t509 t510 t517 t518 t519 t524 t525 t526))) else (some false))) else (laws_FnTempoChanges.j2 kj127 t473 t476 t477 t480 t505 t506 t509 t510 t517 t518 t519 t524 t525 t526)) = some r := by rw [if_neg (show ¬ (false = true) by decide)] at H; exact H
        clear H
        have H := H1
        clear H1
        have HC134 := M_ H
        clear H
        go_upto_if 254 with (fail)
        go_cut [] (fun wc => ∃ (kq : Nat), Aside0 (laws_FnTempoChanges.j2 kq t473 t476 t477 t480 t505 t506 t509 t510 t517 t518 t519 t524 t525 t526 = some r) ∧ Aside0 (kq ≤ kj127) ∧ Aside0 (Kd.R k41 41 wc w.heap.size (fun k_ => some k_ ≠ (v478 : Value).ownBlock ∧ some k_ ≠ (v482 : Value).ownBlock ∧ some k_ ≠ ((.slice Ao36 t505.length co36) : Value).ownBlock ∧ some k_ ≠ (v511 : Value).ownBlock ∧ some k_ ≠ ((.slice Ao40 t517.length co40) : Value).ownBlock) (.slice Ao24 t473.length co24) t473) ∧ Aside0 (Kd.R k41 41 wc w.heap.size (fun k_ => some k_ ≠ ((.slice Ao24 t473.length co24) : Value).ownBlock ∧ some k_ ≠ (v482 : Value).ownBlock ∧ some k_ ≠ ((.slice Ao36 t505.length co36) : Value).ownBlock ∧ some k_ ≠ (v511 : Value).ownBlock ∧ some k_ ≠ ((.slice Ao40 t517.length co40) : Value).ownBlock) v478 t476) ∧ Aside0 (Kd.R k41 41 wc w.heap.size (fun k_ => some k_ ≠ ((.slice Ao24 t473.length co24) : Value).ownBlock ∧ some k_ ≠ (v478 : Value).ownBlock ∧ some k_ ≠ ((.slice Ao36 t505.length co36) : Value).ownBlock ∧ some k_ ≠ (v511 : Value).ownBlock ∧ some k_ ≠ ((.slice Ao40 t517.length co40) : Value).ownBlock) v482 t480) ∧ Aside0 (Kd.R k41 41 wc w.heap.size (fun k_ => some k_ ≠ ((.slice Ao24 t473.length co24) : Value).ownBlock ∧ some k_ ≠ (v478 : Value).ownBlock ∧ some k_ ≠ (v482 : Value).ownBlock ∧ some k_ ≠ (v511 : Value).ownBlock ∧ some k_ ≠ ((.slice Ao40 t517.length co40) : Value).ownBlock) (.slice Ao36 t505.length co36) t505) ∧ Aside0 (Kd.R k41 41 wc w.heap.size (fun k_ => some k_ ≠ ((.slice Ao24 t473.length co24) : Value).ownBlock ∧ some k_ ≠ (v478 : Value).ownBlock ∧ some k_ ≠ (v482 : Value).ownBlock ∧ some k_ ≠ ((.slice Ao36 t505.length co36) : Value).ownBlock ∧ some k_ ≠ ((.slice Ao40 t517.length co40) : Value).ownBlock) v511 t509) ∧ Aside0 (Kd.R k41 41 wc w.heap.size (fun k_ => some k_ ≠ ((.slice Ao24 t473.length co24) : Value).ownBlock ∧ some k_ ≠ (v478 : Value).ownBlock ∧ some k_ ≠ (v482 : Value).ownBlock ∧ some k_ ≠ ((.slice Ao36 t505.length co36) : Value).ownBlock ∧ some k_ ≠ (v511 : Value).ownBlock) (.slice Ao40 t517.length co40) t517) ∧ Aside0 (Below w.heap.size w wc))
        case first => as_aux_lemma =>
         have H := HC134.out
         clear HC134
         by_cases c135 : t502 = true
         ·subst c135
          have H1 : ((impl_TimeBetween.f kj127 t496 t497 t498).bind fun bt541 => (if bt541.2 = true then (if (wrap64 (t503 * (wrap64 (t498 - t497)))) > bt541.1 then (some false) else (if (wrap64 ((wrap64 (t503 + 1)) * (wrap64 (t498 - t497)))) ≤ bt541.1 then (some false) else (laws_FnTempoChanges.j2 kj127 t473 t476 t477 t480 t505 t506 t509 t510 t517 t518 t519 t524 t525 t526))) else (some false))) = some r := by rw [if_pos rfl] at H; exact H
          clear H
          have H := H1
          clear H1
          replace H := Option.bind_eq_some_iff.mp H
          obtain ⟨⟨t541, t542⟩, A1360, H⟩ := H
          try dsimp only at H
          have A136 := M_ A1360
          clear A1360
          by_cases c137 : t542 = true
          ·subst c137
           have H1 : (if (wrap64 (t503 * (wrap64 (t498 - t497)))) > t541 then (some false) else (if (wrap64 ((wrap64 (t503 + 1)) * (wrap64 (t498 - t497)))) ≤ t541 then (some false) else (laws_FnTempoChanges.j2 kj127 t473 t476 t477 t480 t505 t506 t509 t510 t517 t518 t519 t524 t525 t526))) = some r := by rw [if_pos rfl] at H; exact H
           clear H
           have H := H1
           clear H1
           by_cases c138 : (wrap64 (t503 * (wrap64 (t498 - t497)))) > t541
           ·rw [if_pos c138] at H
            exact (df_ hrt_ H).elim
           ·rw [if_neg c138] at H
            have c138b0 : decide (t541 < (wrap64 (t503 * (wrap64 (t498 - t497))))) = false := decide_eq_false c138
            clear c138
            (first | rw [c138b0] | (simp only [i64_w, i32_w]; rw [c138b0]) | skip)
            by_cases c140 : (wrap64 ((wrap64 (t503 + 1)) * (wrap64 (t498 - t497)))) ≤ t541
            ·rw [if_pos c140] at H
             exact (df_ hrt_ H).elim
            ·rw [if_neg c140] at H
             have c140b0 : decide ((wrap64 ((wrap64 (t503 + 1)) * (wrap64 (t498 - t497)))) ≤ t541) = false := decide_eq_false c140
             clear c140
             have H' := M_ H
             clear H
             go_wp2_with (first | ((with_reducible refine gate_callee (f := 28) rfl ?_); refine gL_ (some 259) rfl rfl Try.func28 (by kernel_rfl) rfl #[.slice Ao32 t496.length co32, .int .i64 t497, .int .i64 t498] rfl ?_; (with_reducible refine (impl_TimeBetween.calls kj127 _ _ t496 t497 t498 t541 true _ ?side1 ?side2 A136.out).mono ?_); (case side1 => exact cU_ (Kd.R_reads' HO_16.out).2.2); (case side2 => exact (Kd.R_reads' HO_16.out).2.1); rintro e w142 ⟨rfl, hb⟩; refine ⟨_, rfl, ?_⟩; have n0_ := M_ (rb_ (rU_ HO_5.out) hb); have n1_ := M_ (rb_ (rU_ HO_6.out) hb); have n2_ := M_ (rb_ (rU_ HO_8.out) hb); have n3_ := M_ (rb_ (rU_ HO_16.out) hb); have n4_ := M_ (rb_ (rU_ HO_23.out) hb); have n5_ := M_ (rb_ (rU_ HO_25.out) hb); have n6_ := M_ (rb_ (rU_ HO_29.out) hb); have n7_ := M_ (bS_ hb); clear HO_5; clear HO_6; clear HO_8; clear HO_16; clear HO_23; clear HO_25; clear HO_29; clear HB; have HO_5 := n0_; have HO_6 := n1_; have HO_8 := n2_; have HO_16 := n3_; have HO_23 := n4_; have HO_25 := n5_; have HO_29 := n6_; have HB := n7_; clear n0_ n1_ n2_ n3_ n4_ n5_ n6_ n7_; (try clear hb); (try clear hb2); (try clear hk); (try clear hi)))
             go_meet
             case rel => exact ⟨_, H', ⟨by have := HJ21.out; have := HJ127.out; first | omega | exact Nat.le_refl _⟩, ⟨by (with_reducible repeat (first | apply ra_ | apply rn_ | apply rd_)); exact rm_ HO_5.out (fun _ hk => ⟨hk.1, ⟨hk.2.1, ⟨hk.2.2.2.1, ⟨hk.2.2.2.2.1, hk.2.2.2.2.2⟩⟩⟩⟩)⟩, ⟨by (with_reducible repeat (first | apply ra_ | apply rn_ | apply rd_)); exact rm_ HO_6.out (fun _ hk => ⟨hk.1, ⟨hk.2.1, ⟨hk.2.2.2.1, ⟨hk.2.2.2.2.1, hk.2.2.2.2.2⟩⟩⟩⟩)⟩, ⟨by (with_reducible repeat (first | apply ra_ | apply rn_ | apply rd_)); exact rm_ HO_8.out (fun _ hk => ⟨hk.1, ⟨hk.2.1, ⟨hk.2.2.2.1, ⟨hk.2.2.2.2.1, hk.2.2.2.2.2⟩⟩⟩⟩)⟩, ⟨by (with_reducible repeat (first | apply ra_ | apply rn_ | apply rd_)); exact rm_ HO_23.out (fun _ hk => ⟨hk.1, ⟨hk.2.1, ⟨hk.2.2.1, ⟨hk.2.2.2.2.1, hk.2.2.2.2.2⟩⟩⟩⟩)⟩, ⟨by (with_reducible repeat (first | apply ra_ | apply rn_ | apply rd_)); exact rm_ HO_25.out (fun _ hk => ⟨hk.1, ⟨hk.2.1, ⟨hk.2.2.1, ⟨hk.2.2.2.2.1, hk.2.2.2.2.2⟩⟩⟩⟩)⟩, ⟨by (with_reducible repeat (first | apply ra_ | apply rn_ | apply rd_)); exact rm_ HO_29.out (fun _ hk => ⟨hk.1, ⟨hk.2.1, ⟨hk.2.2.1, ⟨hk.2.2.2.2.1, hk.2.2.2.2.2⟩⟩⟩⟩)⟩, bA_⟩
          ·replace c137 := Bool.eq_false_iff.mpr c137
           subst c137
           have H1 : (some false) = some r := by rw [if_neg (show ¬ (false = true) by decide)] at H; exact H
           exact (df_ hrt_ H1).elim
         ·replace c135 := Bool.eq_false_iff.mpr c135
          subst c135
          have H1 : (laws_FnTempoChanges.j2 kj127 t473 t476 t477 t480 t505 t506 t509 t510 t517 t518 t519 t524 t525 t526) = some r := by rw [if_neg (show ¬ (false = true) by decide)] at H; exact H
          clear H
          have H := H1
          clear H1
          have H' := M_ H
          clear H
          go_wp2
          go_meet
          case rel => exact ⟨_, H', ⟨by have := HJ21.out; have := HJ127.out; first | omega | exact Nat.le_refl _⟩, ⟨by (with_reducible repeat (first | apply ra_ | apply rn_ | apply rd_)); exact rm_ HO_5.out (fun _ hk => ⟨hk.1, ⟨hk.2.1, ⟨hk.2.2.2.1, ⟨hk.2.2.2.2.1, hk.2.2.2.2.2⟩⟩⟩⟩)⟩, ⟨by (with_reducible repeat (first | apply ra_ | apply rn_ | apply rd_)); exact rm_ HO_6.out (fun _ hk => ⟨hk.1, ⟨hk.2.1, ⟨hk.2.2.2.1, ⟨hk.2.2.2.2.1, hk.2.2.2.2.2⟩⟩⟩⟩)⟩, ⟨by (with_reducible repeat (first | apply ra_ | apply rn_ | apply rd_)); exact rm_ HO_8.out (fun _ hk => ⟨hk.1, ⟨hk.2.1, ⟨hk.2.2.2.1, ⟨hk.2.2.2.2.1, hk.2.2.2.2.2⟩⟩⟩⟩)⟩, ⟨by (with_reducible repeat (first | apply ra_ | apply rn_ | apply rd_)); exact rm_ HO_23.out (fun _ hk => ⟨hk.1, ⟨hk.2.1, ⟨hk.2.2.1, ⟨hk.2.2.2.2.1, hk.2.2.2.2.2⟩⟩⟩⟩)⟩, ⟨by (with_reducible repeat (first | apply ra_ | apply rn_ | apply rd_)); exact rm_ HO_25.out (fun _ hk => ⟨hk.1, ⟨hk.2.1, ⟨hk.2.2.1, ⟨hk.2.2.2.2.1, hk.2.2.2.2.2⟩⟩⟩⟩)⟩, ⟨by (with_reducible repeat (first | apply ra_ | apply rn_ | apply rd_)); exact rm_ HO_29.out (fun _ hk => ⟨hk.1, ⟨hk.2.1, ⟨hk.2.2.1, ⟨hk.2.2.2.2.1, hk.2.2.2.2.2⟩⟩⟩⟩)⟩, bA_⟩
        case rest => as_aux_lemma =>
         clear HC134
         try clear c1
         try clear c2
         try clear p2
         try clear c3
         try clear c3b0
         try clear c4
         try clear c5
         try clear c6
         try clear p6
         try clear c7
         try clear c8
         try clear c9
         try clear c10
         try clear c11
         try clear c12
         try clear c13
         try clear c14
         try clear c15
         try clear c16
         try clear c17
         try clear c18
         try clear c19
         try clear c20
         try clear c21
         try clear c22
         try clear c23
         try clear c24
         try clear c25
         try clear c28
         try clear c47
         try clear c47b0
         try clear c47b1
         try clear c47b2
         try clear c49
         try clear c50
         try clear c50b0
         try clear c50b1
         try clear c50b2
         try clear c54
         try clear c55
         try clear c55b0
         try clear c55b1
         try clear c55b2
         try clear c60
         try clear c60b0
         try clear c60b1
         try clear c61
         try clear c61b0
         try clear c61b1
         try clear c61b2
         try clear p64
         try clear c67
         try clear c68
         try clear c68b0
         try clear c68b1
         try clear c68b2
         try clear c75
         try clear c75b0
         try clear c75b1
         try clear c76
         try clear c76b0
         try clear c76b1
         try clear c77
         try clear c77b0
         try clear c77b1
         try clear c77b2
         try clear c84
         try clear c84b0
         try clear c84b1
         try clear c127
         try clear c129
         try clear c130
         try clear c130b0
         try clear c130b1
         try clear c133
         try clear c135
         try clear c137
         try clear c138
         try clear c138b0
         try clear c140
         try clear c140b0
         try clear p2
         try clear p6
         try clear p64
         obtain ⟨kq, HA, HJ133, HO_5, HO_6, HO_8, HO_23, HO_25, HO_29, HB⟩ := hcut
         cases kq with
         | zero => exact absurd HA.out (by simp [laws_FnTempoChanges.j2])
         | succ kj133 =>
          have H := HA.out
          clear HA
          simp only [laws_FnTempoChanges.j2] at H
          have HC144 := M_ H
          clear H
          go_upto_if 283 with (fail)
          go_cut [] (fun wc => ∃ (kq : Nat), Aside0 (laws_FnTempoChanges.j3 kq t473 t476 t477 t480 t517 t518 t519 t524 t525 t526 = some r) ∧ Aside0 (kq ≤ kj133) ∧ Aside0 (Kd.R k41 41 wc w.heap.size (fun k_ => some k_ ≠ (v478 : Value).ownBlock ∧ some k_ ≠ (v482 : Value).ownBlock ∧ some k_ ≠ ((.slice Ao40 t517.length co40) : Value).ownBlock) (.slice Ao24 t473.length co24) t473) ∧ Aside0 (Kd.R k41 41 wc w.heap.size (fun k_ => some k_ ≠ ((.slice Ao24 t473.length co24) : Value).ownBlock ∧ some k_ ≠ (v482 : Value).ownBlock ∧ some k_ ≠ ((.slice Ao40 t517.length co40) : Value).ownBlock) v478 t476) ∧ Aside0 (Kd.R k41 41 wc w.heap.size (fun k_ => some k_ ≠ ((.slice Ao24 t473.length co24) : Value).ownBlock ∧ some k_ ≠ (v478 : Value).ownBlock ∧ some k_ ≠ ((.slice Ao40 t517.length co40) : Value).ownBlock) v482 t480) ∧ Aside0 (Kd.R k41 41 wc w.heap.size (fun k_ => some k_ ≠ ((.slice Ao24 t473.length co24) : Value).ownBlock ∧ some k_ ≠ (v478 : Value).ownBlock ∧ some k_ ≠ (v482 : Value).ownBlock) (.slice Ao40 t517.length co40) t517) ∧ Aside0 (Below w.heap.size w wc))
          case first => as_aux_lemma =>
           have H := HC144.out
           clear HC144
           by_cases c145 : t510 = true
           ·subst c145
            have H1 : (if 0 ≤ t506 then (if t506 < (t505.length : Int) then ((impl_AddTempo.f kj133 t509 ((rd_T41 t505 t506).f0) ((rd_T41 t505 t506).f1)).bind fun bt544 => (if bt544.2 = true then ((laws_qTempos.f kj133 bt544.1 t505).bind fun t548 => (if t548 = true then (laws_FnTempoChanges.j3 kj133 t473 t476 t477 t480 t517 t518 t519 t524 t525 t526) else (some false))) else (some false))) else (none)) else (none)) = some r := by rw [if_pos rfl] at H; exact H
            clear H
            have H := H1
            clear H1
            by_cases c146 : 0 ≤ t506
            ·rw [if_pos c146] at H
             have c146b0 : decide (0 ≤ t506) = true := decide_eq_true c146
             clear c146
             (first | rw [c146b0] | (simp only [i64_w, i32_w]; rw [c146b0]) | skip)
             by_cases c147 : t506 < (t505.length : Int)
             ·rw [if_pos c147] at H
              have c147b0 : decide (t506 < (t505.length : Int)) = true := decide_eq_true c147
              clear c147
              replace H := Option.bind_eq_some_iff.mp H
              obtain ⟨⟨t544, t547⟩, A1480, H⟩ := H
              try dsimp only at H
              have A148 := M_ A1480
              clear A1480
              by_cases c149 : t547 = true
              ·subst c149
               have H1 : ((laws_qTempos.f kj133 t544 t505).bind fun t548 => (if t548 = true then (laws_FnTempoChanges.j3 kj133 t473 t476 t477 t480 t517 t518 t519 t524 t525 t526) else (some false))) = some r := by rw [if_pos rfl] at H; exact H
               clear H
               have H := H1
               clear H1
               replace H := Option.bind_eq_some_iff.mp H
               obtain ⟨t548, A1500, H⟩ := H
               try dsimp only at H
               have A150 := M_ A1500
               clear A1500
               by_cases c151 : t548 = true
               ·subst c151
                have H1 : (laws_FnTempoChanges.j3 kj133 t473 t476 t477 t480 t517 t518 t519 t524 t525 t526) = some r := by rw [if_pos rfl] at H; exact H
                clear H
                have H := H1
                clear H1
                have H' := M_ H
                clear H
                have p543 : 0 ≤ (t506 : Int) := dT_
                have q543 : t506 < (t505.length : Int) := dT_
                obtain ⟨ad543, e543, hx543_0, hx543_1⟩ := at_T41 (Kd.R_reads' HO_23.out).2.2 t506 p543 q543
                cases e543
                replace p543 := eq_true p543
                replace q543 := eq_true q543
                obtain ⟨Ao152, co152, eo152⟩ := Kd.R_slice HO_25.out
                subst eo152
                go_wp2_with (first | ((with_reducible refine gate_callee (f := 29) rfl ?_); refine gL_ (some 290) rfl rfl Try.func29 (by kernel_rfl) rfl #[.slice Ao152 t509.length co152, .agg #[.int .i64 ((rd_T41 t505 t506).f0), .int .i64 ((rd_T41 t505 t506).f1)]] rfl ?_; (with_reducible refine (impl_AddTempo.calls kj133 _ _ t509 ((rd_T41 t505 t506).f0) ((rd_T41 t505 t506).f1) t544 true _ ?side1 ?side2 A148.out).mono ?_); (case side1 => exact cU_ (Kd.R_reads' HO_25.out).2.2); (case side2 => exact (Kd.R_reads' HO_25.out).2.1); rintro e w153 ⟨v545, rfl, ho0, hb⟩; refine ⟨_, rfl, ?_⟩; have n0_ := M_ (Kd.R_elder' (rU_ HO_5.out) (Kd.R_base ho0) hb); have n1_ := M_ (Kd.R_elder' (rU_ HO_6.out) (Kd.R_base ho0) hb); have n2_ := M_ (Kd.R_elder' (rU_ HO_8.out) (Kd.R_base ho0) hb); have n3_ := M_ (Kd.R_elder' (rU_ HO_23.out) (Kd.R_base ho0) hb); have n4_ := M_ (Kd.R_elder' (rU_ HO_25.out) (Kd.R_base ho0) hb); have n5_ := M_ (Kd.R_elder' (rU_ HO_29.out) (Kd.R_base ho0) hb); have n6_ := M_ (Kd.R_lower (Kd.R_new' (Kd.R_new' (Kd.R_new' (Kd.R_new' (Kd.R_new' (Kd.R_new' ho0 (Kd.R_lt (rU_ HO_5.out))) (Kd.R_lt (rU_ HO_6.out))) (Kd.R_lt (rU_ HO_8.out))) (Kd.R_lt (rU_ HO_23.out))) (Kd.R_lt (rU_ HO_25.out))) (Kd.R_lt (rU_ HO_29.out))) bZ_); have n7_ := M_ (bS_ hb); clear HO_5; clear HO_6; clear HO_8; clear HO_23; clear HO_25; clear HO_29; clear HB; have HO_5 := n0_; have HO_6 := n1_; have HO_8 := n2_; have HO_23 := n3_; have HO_25 := n4_; have HO_29 := n5_; have HO546 := n6_; have HB := n7_; clear n0_ n1_ n2_ n3_ n4_ n5_ n6_ n7_; (try clear hb); (try clear hb2); (try clear hk); (try clear hi); (try clear ho0); obtain ⟨Ao154, co154, eo154⟩ := Kd.R_slice HO546.out; subst eo154) | (go_at_call 26; (with_reducible refine (laws_qTempos.calls kj133 _ _ t544 _ _ t505 true _ ?side1 ?side2 ?side3 ?side4 A150.out).mono ?_); (case side1 => exact cU_ (Kd.R_reads' HO546.out).2.2); (case side2 => exact (Kd.R_reads' HO546.out).2.1); (case side3 => exact cU_ (Kd.R_reads' HO_23.out).2.2); (case side4 => exact (Kd.R_reads' HO_23.out).2.1); rintro e w' ⟨rfl, ⟨nd, rfl⟩⟩))
                go_meet
                case rel => exact ⟨_, H', ⟨by have := HJ21.out; have := HJ127.out; have := HJ133.out; first | omega | exact Nat.le_refl _⟩, ⟨by (with_reducible repeat (first | apply ra_ | apply rn_ | apply rd_)); exact rm_ HO_5.out (fun _ hk => ⟨hk.1.1, ⟨hk.1.2.1, hk.1.2.2.2.2⟩⟩)⟩, ⟨by (with_reducible repeat (first | apply ra_ | apply rn_ | apply rd_)); exact rm_ HO_6.out (fun _ hk => ⟨hk.1.1, ⟨hk.1.2.1, hk.1.2.2.2.2⟩⟩)⟩, ⟨by (with_reducible repeat (first | apply ra_ | apply rn_ | apply rd_)); exact rm_ HO_8.out (fun _ hk => ⟨hk.1.1, ⟨hk.1.2.1, hk.1.2.2.2.2⟩⟩)⟩, ⟨by (with_reducible repeat (first | apply ra_ | apply rn_ | apply rd_)); exact rm_ HO_29.out (fun _ hk => ⟨hk.1.1, ⟨hk.1.2.1, hk.1.2.2.1⟩⟩)⟩, bA_⟩
               ·replace c151 := Bool.eq_false_iff.mpr c151
                subst c151
                have H1 : (some false) = some r := by rw [if_neg (show ¬ (false = true) by decide)] at H; exact H
                exact (df_ hrt_ H1).elim
              ·replace c149 := Bool.eq_false_iff.mpr c149
               subst c149
               have H1 : (some false) = some r := by rw [if_neg (show ¬ (false = true) by decide)] at H; exact H
               exact (df_ hrt_ H1).elim
             ·rw [if_neg c147] at H
              exact absurd H (by simp)
            ·rw [if_neg c146] at H
             exact absurd H (by simp)
           ·replace c145 := Bool.eq_false_iff.mpr c145
            subst c145
            have H1 : (laws_FnTempoChanges.j3 kj133 t473 t476 t477 t480 t517 t518 t519 t524 t525 t526) = some r := by rw [if_neg (show ¬ (false = true) by decide)] at H; exact H
            clear H
            have H := H1
            clear H1
            have H' := M_ H
            clear H
            go_wp2
            go_meet
            case rel => exact ⟨_, H', ⟨by have := HJ21.out; have := HJ127.out; have := HJ133.out; first | omega | exact Nat.le_refl _⟩, ⟨by (with_reducible repeat (first | apply ra_ | apply rn_ | apply rd_)); exact rm_ HO_5.out (fun _ hk => ⟨hk.1, ⟨hk.2.1, hk.2.2.2.2⟩⟩)⟩, ⟨by (with_reducible repeat (first | apply ra_ | apply rn_ | apply rd_)); exact rm_ HO_6.out (fun _ hk => ⟨hk.1, ⟨hk.2.1, hk.2.2.2.2⟩⟩)⟩, ⟨by (with_reducible repeat (first | apply ra_ | apply rn_ | apply rd_)); exact rm_ HO_8.out (fun _ hk => ⟨hk.1, ⟨hk.2.1, hk.2.2.2.2⟩⟩)⟩, ⟨by (with_reducible repeat (first | apply ra_ | apply rn_ | apply rd_)); exact rm_ HO_29.out (fun _ hk => ⟨hk.1, ⟨hk.2.1, hk.2.2.1⟩⟩)⟩, bA_⟩
          case rest => as_aux_lemma =>
           clear HC144
           try clear c1
           try clear c2
           try clear p2
           try clear c3
           try clear c3b0
           try clear c4
           try clear c5
           try clear p5
           try clear q5
           try clear hx5
           try clear c6
           try clear p6
           try clear c7
           try clear c8
           try clear c9
           try clear c10
           try clear c11
           try clear c12
           try clear c13
           try clear c14
           try clear c15
           try clear c16
           try clear c17
           try clear c18
           try clear c19
           try clear c20
           try clear c21
           try clear c22
           try clear c23
           try clear c24
           try clear c25
           try clear c28
           try clear c29
           try clear c47
           try clear c47b0
           try clear c47b1
           try clear c47b2
           try clear c49
           try clear c50
           try clear c50b0
           try clear c50b1
           try clear c50b2
           try clear c54
           try clear p54
           try clear q54
           try clear hx54
           try clear c55
           try clear c55b0
           try clear c55b1
           try clear c55b2
           try clear c60
           try clear c60b0
           try clear c60b1
           try clear c61
           try clear c61b0
           try clear c61b1
           try clear c61b2
           try clear p64
           try clear c67
           try clear c68
           try clear c68b0
           try clear c68b1
           try clear c68b2
           try clear c75
           try clear c75b0
           try clear c75b1
           try clear c76
           try clear c76b0
           try clear c76b1
           try clear c77
           try clear c77b0
           try clear c77b1
           try clear c77b2
           try clear c84
           try clear c84b0
           try clear c84b1
           try clear c127
           try clear c129
           try clear c130
           try clear c130b0
           try clear c130b1
           try clear c133
           try clear c135
           try clear c137
           try clear c138
           try clear c138b0
           try clear c140
           try clear c140b0
           try clear c145
           try clear c146
           try clear c146b0
           try clear c147
           try clear c147b0
           try clear c149
           try clear c151
           try clear hx543_0
           try clear hx543_1
           try clear p2
           try clear p543
           try clear p6
           try clear p64
           try clear q543
           obtain ⟨kq, HA, HJ143, HO_5, HO_6, HO_8, HO_29, HB⟩ := hcut
           cases kq with
           | zero => exact absurd HA.out (by simp [laws_FnTempoChanges.j3])
           | succ kj143 =>
            have H := HA.out
            clear HA
            simp only [laws_FnTempoChanges.j3] at H
            have HC160 := M_ H
            clear H
            go_upto_if 301 with (fail)
            go_cut [] (fun wc => ∃ (kq : Nat), Aside0 (laws_FnTempoChanges.j4 kq t473 t476 t477 t480 = some r) ∧ Aside0 (kq ≤ kj143) ∧ Aside0 (Kd.R k41 41 wc w.heap.size (fun k_ => some k_ ≠ (v478 : Value).ownBlock ∧ some k_ ≠ (v482 : Value).ownBlock) (.slice Ao24 t473.length co24) t473) ∧ Aside0 (Kd.R k41 41 wc w.heap.size (fun k_ => some k_ ≠ ((.slice Ao24 t473.length co24) : Value).ownBlock ∧ some k_ ≠ (v482 : Value).ownBlock) v478 t476) ∧ Aside0 (Kd.R k41 41 wc w.heap.size (fun k_ => some k_ ≠ ((.slice Ao24 t473.length co24) : Value).ownBlock ∧ some k_ ≠ (v478 : Value).ownBlock) v482 t480) ∧ Aside0 (Below w.heap.size w wc))
            case first => as_aux_lemma =>
             have H := HC160.out
             clear HC160
             by_cases c161 : t524 = true
             ·subst c161
              have H1 : ((impl_TempoAt.f kj143 t517 t518).bind fun bt549 => (if bt549.2 = true then (if t526 < 1 then (some false) else (if (wrap64 (t525 * bt549.1)) = (wrap64 ((wrap64 (1000000 * t519)) * t526)) then (laws_FnTempoChanges.j4 kj143 t473 t476 t477 t480) else (some false))) else (some false))) = some r := by rw [if_pos rfl] at H; exact H
              clear H
              have H := H1
              clear H1
              replace H := Option.bind_eq_some_iff.mp H
              obtain ⟨⟨t549, t550⟩, A1620, H⟩ := H
              try dsimp only at H
              have A162 := M_ A1620
              clear A1620
              by_cases c163 : t550 = true
              ·subst c163
               have H1 : (if t526 < 1 then (some false) else (if (wrap64 (t525 * t549)) = (wrap64 ((wrap64 (1000000 * t519)) * t526)) then (laws_FnTempoChanges.j4 kj143 t473 t476 t477 t480) else (some false))) = some r := by rw [if_pos rfl] at H; exact H
               clear H
               have H := H1
               clear H1
               by_cases c164 : t526 < 1
               ·rw [if_pos c164] at H
                exact (df_ hrt_ H).elim
               ·rw [if_neg c164] at H
                have c164b0 : decide (t526 < 1) = false := decide_eq_false c164
                clear c164
                (first | rw [c164b0] | (simp only [i64_w, i32_w]; rw [c164b0]) | skip)
                by_cases c166 : (wrap64 (t525 * t549)) = (wrap64 ((wrap64 (1000000 * t519)) * t526))
                ·rw [if_pos c166] at H
                 have c166b0 : ((wrap64 (t525 * t549)) == (wrap64 ((wrap64 (1000000 * t519)) * t526))) = true := beq_iff_eq.mpr c166
                 have c166b1 : ((wrap64 (t525 * t549)) != (wrap64 ((wrap64 (1000000 * t519)) * t526))) = false := bne_eq_false_iff_eq.mpr c166
                 clear c166
                 have H' := M_ H
                 clear H
                 go_wp2_with (first | ((with_reducible refine gate_callee (f := 24) rfl ?_); refine gL_ (some 305) rfl rfl Try.func24 (by kernel_rfl) rfl #[.slice Ao40 t517.length co40, .int .i64 t518] rfl ?_; (with_reducible refine (impl_TempoAt.calls kj143 _ _ t517 t518 t549 true _ ?side1 ?side2 A162.out).mono ?_); (case side1 => exact cU_ (Kd.R_reads' HO_29.out).2.2); (case side2 => exact (Kd.R_reads' HO_29.out).2.1); rintro e w167 ⟨rfl, hb⟩; refine ⟨_, rfl, ?_⟩; have n0_ := M_ (rb_ (rU_ HO_5.out) hb); have n1_ := M_ (rb_ (rU_ HO_6.out) hb); have n2_ := M_ (rb_ (rU_ HO_8.out) hb); have n3_ := M_ (rb_ (rU_ HO_29.out) hb); have n4_ := M_ (bS_ hb); clear HO_5; clear HO_6; clear HO_8; clear HO_29; clear HB; have HO_5 := n0_; have HO_6 := n1_; have HO_8 := n2_; have HO_29 := n3_; have HB := n4_; clear n0_ n1_ n2_ n3_ n4_; (try clear hb); (try clear hb2); (try clear hk); (try clear hi)))
                 go_meet
                 case rel => exact ⟨_, H', ⟨by have := HJ21.out; have := HJ127.out; have := HJ133.out; have := HJ143.out; first | omega | exact Nat.le_refl _⟩, ⟨by (with_reducible repeat (first | apply ra_ | apply rn_ | apply rd_)); first | exact rm_ HO_5.out (fun _ hk => ⟨hk.1, hk.2.1⟩) | exact rm_ HO_5.out (fun _ hk => by refine ⟨?_, ?_⟩ <;> (first | exact hk.2 | exact hk.2.1 | exact hk.2.2 | exact hk.1.2 | exact hk.1.2.1 | exact hk.1.2.2 | exact hk.1.1.2 | exact hk.1.1.2.1 | exact hk.1.1.2.2 | exact hk.1.1.1.2 | exact hk.1.1.1.2.1 | exact hk.1.1.1.2.2 | exact hk.1.1.1.1.2 | exact hk.1.1.1.1.2.1 | exact hk.1.1.1.1.2.2 | exact hk | exact hk.1 | exact hk.1.1 | exact hk.1.1.1 | exact hk.1.1.1.1 | exact hk.1.1.1.1.1))⟩, ⟨by (with_reducible repeat (first | apply ra_ | apply rn_ | apply rd_)); first | exact rm_ HO_6.out (fun _ hk => ⟨hk.1, hk.2.1⟩) | exact rm_ HO_6.out (fun _ hk => by refine ⟨?_, ?_⟩ <;> (first | exact hk.2 | exact hk.2.1 | exact hk.2.2 | exact hk.1.2 | exact hk.1.2.1 | exact hk.1.2.2 | exact hk.1.1.2 | exact hk.1.1.2.1 | exact hk.1.1.2.2 | exact hk.1.1.1.2 | exact hk.1.1.1.2.1 | exact hk.1.1.1.2.2 | exact hk.1.1.1.1.2 | exact hk.1.1.1.1.2.1 | exact hk.1.1.1.1.2.2 | exact hk | exact hk.1 | exact hk.1.1 | exact hk.1.1.1 | exact hk.1.1.1.1 | exact hk.1.1.1.1.1))⟩, ⟨by (with_reducible repeat (first | apply ra_ | apply rn_ | apply rd_)); first | exact rm_ HO_8.out (fun _ hk => ⟨hk.1, hk.2.1⟩) | exact rm_ HO_8.out (fun _ hk => by refine ⟨?_, ?_⟩ <;> (first | exact hk.2 | exact hk.2.1 | exact hk.2.2 | exact hk.1.2 | exact hk.1.2.1 | exact hk.1.2.2 | exact hk.1.1.2 | exact hk.1.1.2.1 | exact hk.1.1.2.2 | exact hk.1.1.1.2 | exact hk.1.1.1.2.1 | exact hk.1.1.1.2.2 | exact hk.1.1.1.1.2 | exact hk.1.1.1.1.2.1 | exact hk.1.1.1.1.2.2 | exact hk | exact hk.1 | exact hk.1.1 | exact hk.1.1.1 | exact hk.1.1.1.1 | exact hk.1.1.1.1.1))⟩, bA_⟩
                ·rw [if_neg c166] at H
                 exact (df_ hrt_ H).elim
              ·replace c163 := Bool.eq_false_iff.mpr c163
               subst c163
               have H1 : (some false) = some r := by rw [if_neg (show ¬ (false = true) by decide)] at H; exact H
               exact (df_ hrt_ H1).elim
             ·replace c161 := Bool.eq_false_iff.mpr c161
              subst c161
              have H1 : (laws_FnTempoChanges.j4 kj143 t473 t476 t477 t480) = some r := by rw [if_neg (show ¬ (false = true) by decide)] at H; exact H
              clear H
              have H := H1
              clear H1
              have H' := M_ H
              clear H
              go_wp2
              go_meet
              case rel => exact ⟨_, H', ⟨by have := HJ21.out; have := HJ127.out; have := HJ133.out; have := HJ143.out; first | omega | exact Nat.le_refl _⟩, ⟨by (with_reducible repeat (first | apply ra_ | apply rn_ | apply rd_)); first | exact rm_ HO_5.out (fun _ hk => ⟨hk.1, hk.2.1⟩) | exact rm_ HO_5.out (fun _ hk => by refine ⟨?_, ?_⟩ <;> (first | exact hk.2 | exact hk.2.1 | exact hk.2.2 | exact hk.1.2 | exact hk.1.2.1 | exact hk.1.2.2 | exact hk.1.1.2 | exact hk.1.1.2.1 | exact hk.1.1.2.2 | exact hk.1.1.1.2 | exact hk.1.1.1.2.1 | exact hk.1.1.1.2.2 | exact hk.1.1.1.1.2 | exact hk.1.1.1.1.2.1 | exact hk.1.1.1.1.2.2 | exact hk | exact hk.1 | exact hk.1.1 | exact hk.1.1.1 | exact hk.1.1.1.1 | exact hk.1.1.1.1.1))⟩, ⟨by (with_reducible repeat (first | apply ra_ | apply rn_ | apply rd_)); first | exact rm_ HO_6.out (fun _ hk => ⟨hk.1, hk.2.1⟩) | exact rm_ HO_6.out (fun _ hk => by refine ⟨?_, ?_⟩ <;> (first | exact hk.2 | exact hk.2.1 | exact hk.2.2 | exact hk.1.2 | exact hk.1.2.1 | exact hk.1.2.2 | exact hk.1.1.2 | exact hk.1.1.2.1 | exact hk.1.1.2.2 | exact hk.1.1.1.2 | exact hk.1.1.1.2.1 | exact hk.1.1.1.2.2 | exact hk.1.1.1.1.2 | exact hk.1.1.1.1.2.1 | exact hk.1.1.1.1.2.2 | exact hk | exact hk.1 | exact hk.1.1 | exact hk.1.1.1 | exact hk.1.1.1.1 | exact hk.1.1.1.1.1))⟩, ⟨by (with_reducible repeat (first | apply ra_ | apply rn_ | apply rd_)); first | exact rm_ HO_8.out (fun _ hk => ⟨hk.1, hk.2.1⟩) | exact rm_ HO_8.out (fun _ hk => by refine ⟨?_, ?_⟩ <;> (first | exact hk.2 | exact hk.2.1 | exact hk.2.2 | exact hk.1.2 | exact hk.1.2.1 | exact hk.1.2.2 | exact hk.1.1.2 | exact hk.1.1.2.1 | exact hk.1.1.2.2 | exact hk.1.1.1.2 | exact hk.1.1.1.2.1 | exact hk.1.1.1.2.2 | exact hk.1.1.1.1.2 | exact hk.1.1.1.1.2.1 | exact hk.1.1.1.1.2.2 | exact hk | exact hk.1 | exact hk.1.1 | exact hk.1.1.1 | exact hk.1.1.1.1 | exact hk.1.1.1.1.1))⟩, bA_⟩
            case rest => as_aux_lemma =>
             clear HC160
             try clear c1
             try clear c2
             try clear p2
             try clear c3
             try clear c3b0
             try clear c4
             try clear c5
             try clear p5
             try clear q5
             try clear hx5
             try clear c6
             try clear p6
             try clear c7
             try clear c8
             try clear c9
             try clear c10
             try clear c11
             try clear c12
             try clear c13
             try clear c14
             try clear c15
             try clear c16
             try clear c17
             try clear c18
             try clear c19
             try clear c20
             try clear c21
             try clear c22
             try clear c23
             try clear c24
             try clear c25
             try clear c28
             try clear c29
             try clear c47
             try clear c47b0
             try clear c47b1
             try clear c47b2
             try clear c49
             try clear c50
             try clear c50b0
             try clear c50b1
             try clear c50b2
             try clear c54
             try clear p54
             try clear q54
             try clear hx54
             try clear c55
             try clear c55b0
             try clear c55b1
             try clear c55b2
             try clear c60
             try clear c60b0
             try clear c60b1
             try clear c61
             try clear c61b0
             try clear c61b1
             try clear c61b2
             try clear p64
             try clear c67
             try clear c68
             try clear c68b0
             try clear c68b1
             try clear c68b2
             try clear c75
             try clear c75b0
             try clear c75b1
             try clear c76
             try clear c76b0
             try clear c76b1
             try clear c77
             try clear c77b0
             try clear c77b1
             try clear c77b2
             try clear c84
             try clear c84b0
             try clear c84b1
             try clear c127
             try clear c129
             try clear c130
             try clear c130b0
             try clear c130b1
             try clear c133
             try clear c135
             try clear c137
             try clear c138
             try clear c138b0
             try clear c140
             try clear c140b0
             try clear c145
             try clear c146
             try clear c146b0
             try clear c147
             try clear c147b0
             try clear c149
             try clear c151
             try clear c161
             try clear c163
             try clear c164
             try clear c164b0
             try clear c166
             try clear c166b0
             try clear c166b1
             try clear hx543_0
             try clear hx543_1
             try clear p2
             try clear p5
             try clear p54
             try clear p543
             try clear p6
             try clear p64
             try clear q5
             try clear q54
             try clear q543
             obtain ⟨kq, HA, HJ159, HO_5, HO_6, HO_8, HB⟩ := hcut
             cases kq with
             | zero => exact absurd HA.out (by simp [laws_FnTempoChanges.j4])
             | succ kj159 =>
              have H := HA.out
              clear HA
              simp only [laws_FnTempoChanges.j4] at H
              by_cases c170 : t477 = true
              ·subst c170
               have H1 : ((some (([0, 1, 50, 1000, 2000] : List Int) : List Int)).bind fun y551 => (laws_FnTempoChanges.l0 kj159 t473 t476 t480 y551 (y551.length : Int) 0)) = some r := by rw [if_pos rfl] at H; exact H
               clear H
               have H := H1
               clear H1
               obtain ⟨y551, hy551⟩ : ∃ y_ : List Int, y_ = (([0, 1, 50, 1000, 2000] : List Int)) := ⟨_, rfl⟩
               replace H : (laws_FnTempoChanges.l0 kj159 t473 t476 t480 y551 (y551.length : Int) 0) = some r := by first | (rw [hy551]; with_reducible exact H) | (have H2_ := (Option.bind_some _ _).symm.trans H; rw [hy551]; with_reducible exact H2_) | (have H2_ := (Option.bind_some _ _).symm.trans H; with_reducible exact H2_) | with_reducible exact H | (rw [hy551]; exact H) | exact H
               have Ny551 := M_ hy551
               clear hy551
               have H' := M_ H
               clear H
               go_wp2_with (first | ((with_reducible refine gate_dst (N := 326) rfl ?_); (try (refine gate_guard (by rfl) ?_; dsimp only)); refine Kd.R_lit (Kd.int .i64) _ 3 ?hg (N := 326) ?hd (xs := ([0, 1, 50, 1000, 2000] : List Int)) (inner := [.int .i64 0, .int .i64 1, .int .i64 50, .int .i64 1000, .int .i64 2000]) (ok := fun _ => True) (okp := fun _ => True) ?hr ?hp (fun _ hk => hk) trivial (Below.refl _ _) (Nat.le_refl _) (by simp) ?_; (case hd => rfl); (case hg => rfl); (case hr => first | (go_simp; done) | (go_simp; rfl)); (case hp => exact (Reps.one (show Kd.M (Kd.int .i64) _ _ _ 0 [.int .i64 0] from rfl) (Reps.one (show Kd.M (Kd.int .i64) _ _ _ 1 [.int .i64 1] from rfl) (Reps.one (show Kd.M (Kd.int .i64) _ _ _ 50 [.int .i64 50] from rfl) (Reps.one (show Kd.M (Kd.int .i64) _ _ _ 1000 [.int .i64 1000] from rfl) (Reps.one (show Kd.M (Kd.int .i64) _ _ _ 2000 [.int .i64 2000] from rfl) (Reps.none _ _))))))); intro v552 w171 ho172 hb hg_ hnew_; clear hg_ hnew_; (first | rw [← Ny551.out] at ho172 | (simp only [Int.reduceToNat] at ho172; rw [← Ny551.out] at ho172)); have n0_ := M_ (rb_ (rU_ HO_5.out) hb); have n1_ := M_ (rb_ (rU_ HO_6.out) hb); have n2_ := M_ (rb_ (rU_ HO_8.out) hb); have n3_ := M_ (Kd.R_lower ho172 bZ_); have n4_ := M_ (bS_ hb); clear HO_5; clear HO_6; clear HO_8; clear HB; have HO_5 := n0_; have HO_6 := n1_; have HO_8 := n2_; have HO553 := n3_; have HB := n4_; clear n0_ n1_ n2_ n3_ n4_; clear hb ho172; obtain ⟨Ao173, co173, eo173⟩ := Kd.R_slice HO553.out; subst eo173))
               go_loopg [328] kj159 (fun kq v328 w' => ∃ (x328_6 : Int), v328 = .int .i64 x328_6 ∧ Aside0 (laws_FnTempoChanges.l0 kq t473 t476 t480 y551 (y551.length : Int) x328_6 = some r) ∧ Aside0 (kq ≤ kj159) ∧ Aside0 (Kd.R k41 41 w' w.heap.size (fun k_ => some k_ ≠ (v478 : Value).ownBlock ∧ some k_ ≠ (v482 : Value).ownBlock) (.slice Ao24 t473.length co24) t473) ∧ Aside0 (Kd.R k41 41 w' w.heap.size (fun k_ => some k_ ≠ ((.slice Ao24 t473.length co24) : Value).ownBlock ∧ some k_ ≠ (v482 : Value).ownBlock) v478 t476) ∧ Aside0 (Kd.R k41 41 w' w.heap.size (fun k_ => some k_ ≠ ((.slice Ao24 t473.length co24) : Value).ownBlock ∧ some k_ ≠ (v478 : Value).ownBlock) v482 t480) ∧ Aside0 (Kd.R (Kd.int .i64) 3 w' w.heap.size (fun _ => True) (.slice Ao173 y551.length co173) y551) ∧ Aside0 (Below w.heap.size w w'))
               case atStart => exact ⟨(0), (by first | rfl | (simp; done) | (simp [*]; done)), H', ⟨Nat.le_refl _⟩, ⟨by (with_reducible repeat (first | apply ra_ | apply rn_ | apply rd_)); exact HO_5.out⟩, ⟨by (with_reducible repeat (first | apply ra_ | apply rn_ | apply rd_)); exact HO_6.out⟩, ⟨by (with_reducible repeat (first | apply ra_ | apply rn_ | apply rd_)); exact HO_8.out⟩, ⟨by (with_reducible repeat (first | apply ra_ | apply rn_ | apply rd_)); exact HO553.out⟩, bA_⟩
               case round =>
                clear H'
                try clear c1
                try clear c2
                try clear p2
                try clear c3
                try clear c3b0
                try clear c4
                try clear c5
                try clear p5
                try clear q5
                try clear hx5
                try clear c6
                try clear p6
                try clear c7
                try clear c8
                try clear c9
                try clear c10
                try clear c11
                try clear c12
                try clear c13
                try clear c14
                try clear c15
                try clear c16
                try clear c17
                try clear c18
                try clear c19
                try clear c20
                try clear c21
                try clear c22
                try clear c23
                try clear c24
                try clear c25
                try clear c28
                try clear c29
                try clear c47
                try clear c47b0
                try clear c47b1
                try clear c47b2
                try clear c49
                try clear c50
                try clear c50b0
                try clear c50b1
                try clear c50b2
                try clear c54
                try clear p54
                try clear q54
                try clear hx54
                try clear c55
                try clear c55b0
                try clear c55b1
                try clear c55b2
                try clear c60
                try clear c60b0
                try clear c60b1
                try clear c61
                try clear c61b0
                try clear c61b1
                try clear c61b2
                try clear p64
                try clear c67
                try clear c68
                try clear c68b0
                try clear c68b1
                try clear c68b2
                try clear c75
                try clear c75b0
                try clear c75b1
                try clear c76
                try clear c76b0
                try clear c76b1
                try clear c77
                try clear c77b0
                try clear c77b1
                try clear c77b2
                try clear c84
                try clear c84b0
                try clear c84b1
                try clear c127
                try clear c129
                try clear c130
                try clear c130b0
                try clear c130b1
                try clear c133
                try clear c135
                try clear c137
                try clear c138
                try clear c138b0
                try clear c140
                try clear c140b0
                try clear c145
                try clear c146
                try clear c146b0
                try clear c147
                try clear c147b0
                try clear c149
                try clear c151
                try clear c161
                try clear c163
                try clear c164
                try clear c164b0
                try clear c166
                try clear c166b0
                try clear c166b1
                try clear c170
                try clear hx543_0
                try clear hx543_1
                try clear p2
                try clear p5
                try clear p54
                try clear p543
                try clear p6
                try clear p64
                try clear q5
                try clear q54
                try clear q543
                obtain ⟨x328_6, rfl, HA, HK6, HO_5, HO_6, HO_8, HO_326, HB⟩ := hrel
                cases gk with
                | zero => exact absurd HA.out (by simp [laws_FnTempoChanges.l0])
                | succ k6 =>
                 have H := HA.out
                 clear HA
                 simp only [laws_FnTempoChanges.l0] at H
                 by_cases c174 : x328_6 < (y551.length : Int)
                 ·rw [if_pos c174] at H
                  have c174b0 : decide (x328_6 < (y551.length : Int)) = true := decide_eq_true c174
                  clear c174
                  by_cases c175 : 0 ≤ x328_6
                  ·rw [if_pos c175] at H
                   have c175b0 : decide (0 ≤ x328_6) = true := decide_eq_true c175
                   clear c175
                   by_cases c176 : x328_6 < (y551.length : Int)
                   ·rw [if_pos c176] at H
                    have c176b0 : decide (x328_6 < (y551.length : Int)) = true := decide_eq_true c176
                    clear c176
                    replace H := Option.bind_eq_some_iff.mp H
                    obtain ⟨⟨t560, t561⟩, A1770, H⟩ := H
                    try dsimp only at H
                    have A177 := M_ A1770
                    clear A1770
                    replace H := Option.bind_eq_some_iff.mp H
                    obtain ⟨⟨t562, t563⟩, A1780, H⟩ := H
                    try dsimp only at H
                    have A178 := M_ A1780
                    clear A1780
                    replace H := Option.bind_eq_some_iff.mp H
                    obtain ⟨⟨t564, t565⟩, A1790, H⟩ := H
                    try dsimp only at H
                    have A179 := M_ A1790
                    clear A1790
                    by_cases c180 : t561 = true
                    ·subst c180
                     have H1 : (if t563 = true then (if t565 = true then (if t560 = t564 then (if t562 = t564 then (laws_FnTempoChanges.l0 k6 t473 t476 t480 y551 (y551.length : Int) (wrap64 (x328_6 + 1))) else (some false)) else (some false)) else (some false)) else (some false)) = some r := by rw [if_pos rfl] at H; exact H
                     clear H
                     have H := H1
                     clear H1
                     by_cases c181 : t563 = true
                     ·subst c181
                      have H1 : (if t565 = true then (if t560 = t564 then (if t562 = t564 then (laws_FnTempoChanges.l0 k6 t473 t476 t480 y551 (y551.length : Int) (wrap64 (x328_6 + 1))) else (some false)) else (some false)) else (some false)) = some r := by rw [if_pos rfl] at H; exact H
                      clear H
                      have H := H1
                      clear H1
                      by_cases c182 : t565 = true
                      ·subst c182
                       have H1 : (if t560 = t564 then (if t562 = t564 then (laws_FnTempoChanges.l0 k6 t473 t476 t480 y551 (y551.length : Int) (wrap64 (x328_6 + 1))) else (some false)) else (some false)) = some r := by rw [if_pos rfl] at H; exact H
                       clear H
                       have H := H1
                       clear H1
                       by_cases c183 : t560 = t564
                       ·rw [if_pos c183] at H
                        have c183b0 : (t560 == t564) = true := beq_iff_eq.mpr c183
                        have c183b1 : (t560 != t564) = false := bne_eq_false_iff_eq.mpr c183
                        clear c183
                        by_cases c184 : t562 = t564
                        ·rw [if_pos c184] at H
                         have c184b0 : (t562 == t564) = true := beq_iff_eq.mpr c184
                         have c184b1 : (t562 != t564) = false := bne_eq_false_iff_eq.mpr c184
                         clear c184
                         have H' := M_ H
                         clear H
                         have p559 : 0 ≤ (x328_6 : Int) := dT_
                         have q559 : x328_6 < (y551.length : Int) := dT_
                         obtain ⟨ad559, e559, hx559_0⟩ := Kd.at_int (Kd.R_reads' HO_326.out).2.2 x328_6 p559 q559
                         cases e559
                         replace p559 := eq_true p559
                         replace q559 := eq_true q559
                         obtain ⟨Ao185, co185, eo185⟩ := Kd.R_slice HO_6.out
                         subst eo185
                         go_wp2_with (first | ((with_reducible refine gate_callee (f := 30) rfl ?_); refine gL_ (some 335) rfl rfl Try.func30 (by kernel_rfl) rfl #[.slice Ao185 t476.length co185, .int .i64 (rd y551 x328_6)] rfl ?_; (with_reducible refine (impl_TimeOf.calls k6 _ _ t476 (rd y551 x328_6) t560 true _ ?side1 ?side2 A177.out).mono ?_); (case side1 => exact cU_ (Kd.R_reads' HO_6.out).2.2); (case side2 => exact (Kd.R_reads' HO_6.out).2.1); rintro e w186 ⟨rfl, hb⟩; refine ⟨_, rfl, ?_⟩; have n0_ := M_ (rb_ (rU_ HO_5.out) hb); have n1_ := M_ (rb_ (rU_ HO_6.out) hb); have n2_ := M_ (rb_ (rU_ HO_8.out) hb); have n3_ := M_ (rb_ (rU_ HO_326.out) hb); have n4_ := M_ (bS_ hb); clear HO_5; clear HO_6; clear HO_8; clear HO_326; clear HB; have HO_5 := n0_; have HO_6 := n1_; have HO_8 := n2_; have HO_326 := n3_; have HB := n4_; clear n0_ n1_ n2_ n3_ n4_; (try clear hb); (try clear hb2); (try clear hk); (try clear hi)) | ((with_reducible refine gate_callee (f := 30) rfl ?_); refine gL_ (some 341) rfl rfl Try.func30 (by kernel_rfl) rfl #[.slice Ao24 t473.length co24, .int .i64 (rd y551 x328_6)] rfl ?_; (with_reducible refine (impl_TimeOf.calls k6 _ _ t473 (rd y551 x328_6) t562 true _ ?side1 ?side2 A178.out).mono ?_); (case side1 => exact cU_ (Kd.R_reads' HO_5.out).2.2); (case side2 => exact (Kd.R_reads' HO_5.out).2.1); rintro e w187 ⟨rfl, hb⟩; refine ⟨_, rfl, ?_⟩; have n0_ := M_ (rb_ (rU_ HO_5.out) hb); have n1_ := M_ (rb_ (rU_ HO_6.out) hb); have n2_ := M_ (rb_ (rU_ HO_8.out) hb); have n3_ := M_ (rb_ (rU_ HO_326.out) hb); have n4_ := M_ (bS_ hb); clear HO_5; clear HO_6; clear HO_8; clear HO_326; clear HB; have HO_5 := n0_; have HO_6 := n1_; have HO_8 := n2_; have HO_326 := n3_; have HB := n4_; clear n0_ n1_ n2_ n3_ n4_; (try clear hb); (try clear hb2); (try clear hk); (try clear hi)) | ((with_reducible refine gate_callee (f := 31) rfl ?_); refine gL_ (some 347) rfl rfl Try.func31 (by kernel_rfl) rfl #[.slice Ao24 t473.length co24, .int .i64 (rd y551 x328_6)] rfl ?_; (with_reducible refine (spec_TimeOf.calls k6 _ _ t473 (rd y551 x328_6) t564 true _ ?side1 ?side2 A179.out).mono ?_); (case side1 => exact cU_ (Kd.R_reads' HO_5.out).2.2); (case side2 => exact (Kd.R_reads' HO_5.out).2.1); rintro e w188 ⟨rfl, hb⟩; refine ⟨_, rfl, ?_⟩; have n0_ := M_ (rb_ (rU_ HO_5.out) hb); have n1_ := M_ (rb_ (rU_ HO_6.out) hb); have n2_ := M_ (rb_ (rU_ HO_8.out) hb); have n3_ := M_ (rb_ (rU_ HO_326.out) hb); have n4_ := M_ (bS_ hb); clear HO_5; clear HO_6; clear HO_8; clear HO_326; clear HB; have HO_5 := n0_; have HO_6 := n1_; have HO_8 := n2_; have HO_326 := n3_; have HB := n4_; clear n0_ n1_ n2_ n3_ n4_; (try clear hb); (try clear hb2); (try clear hk); (try clear hi)))
                         go_roundg k6
                         case measure => have := HJ21.out; have := HJ127.out; have := HJ133.out; have := HJ143.out; have := HJ159.out; have := HK6.out; omega
                         case rel => exact ⟨(wrap64 (x328_6 + 1)), (by first | rfl | (simp; done) | (simp [*]; done)), H', ⟨by have := HJ21.out; have := HJ127.out; have := HJ133.out; have := HJ143.out; have := HJ159.out; have := HK6.out; omega⟩, ⟨by (with_reducible repeat (first | apply ra_ | apply rn_ | apply rd_)); exact HO_5.out⟩, ⟨by (with_reducible repeat (first | apply ra_ | apply rn_ | apply rd_)); exact HO_6.out⟩, ⟨by (with_reducible repeat (first | apply ra_ | apply rn_ | apply rd_)); exact HO_8.out⟩, ⟨by (with_reducible repeat (first | apply ra_ | apply rn_ | apply rd_)); exact HO_326.out⟩, bA_⟩
                        ·rw [if_neg c184] at H
                         exact (df_ hrt_ H).elim
                       ·rw [if_neg c183] at H
                        exact (df_ hrt_ H).elim
                      ·replace c182 := Bool.eq_false_iff.mpr c182
                       subst c182
                       have H1 : (some false) = some r := by rw [if_neg (show ¬ (false = true) by decide)] at H; exact H
                       exact (df_ hrt_ H1).elim
                     ·replace c181 := Bool.eq_false_iff.mpr c181
                      subst c181
                      have H1 : (some false) = some r := by rw [if_neg (show ¬ (false = true) by decide)] at H; exact H
                      exact (df_ hrt_ H1).elim
                    ·replace c180 := Bool.eq_false_iff.mpr c180
                     subst c180
                     have H1 : (some false) = some r := by rw [if_neg (show ¬ (false = true) by decide)] at H; exact H
                     exact (df_ hrt_ H1).elim
                   ·rw [if_neg c176] at H
                    exact absurd H (by simp)
                  ·rw [if_neg c175] at H
                   exact absurd H (by simp)
                 ·rw [if_neg c174] at H
                  have c174b0 : decide (x328_6 < (y551.length : Int)) = false := decide_eq_false c174
                  clear c174
                  replace H := Option.bind_eq_some_iff.mp H
                  obtain ⟨⟨t554, t555⟩, A2090, H⟩ := H
                  try dsimp only at H
                  have A209 := M_ A2090
                  clear A2090
                  by_cases c210 : t555 = true
                  ·subst c210
                   have H1 : ((laws_qTempos.f k6 t554 t480).bind fun t558 => (if t558 = true then (some (decide ((t480.length : Int) ≤ (t473.length : Int)))) else (some false))) = some r := by rw [if_pos rfl] at H; exact H
                   clear H
                   have H := H1
                   clear H1
                   replace H := Option.bind_eq_some_iff.mp H
                   obtain ⟨t558, A2110, H⟩ := H
                   try dsimp only at H
                   have A211 := M_ A2110
                   clear A2110
                   by_cases c212 : t558 = true
                   ·subst c212
                    have H1 : (some (decide ((t480.length : Int) ≤ (t473.length : Int)))) = some r := by rw [if_pos rfl] at H; exact H
                    clear H
                    have H := H1
                    clear H1
                    obtain rfl := Option.some.inj H
                    obtain ⟨Ao213, co213, eo213⟩ := Kd.R_slice HO_6.out
                    subst eo213
                    go_wp2_with (first | ((with_reducible refine gate_callee (f := 9) rfl ?_); refine gL_ (some 373) rfl rfl Try.func9 (by kernel_rfl) rfl #[.slice Ao213 t476.length co213] rfl ?_; (with_reducible refine (impl_SimpleTempos.calls k6 _ _ t476 t554 true _ ?side1 ?side2 A209.out).mono ?_); (case side1 => exact cU_ (Kd.R_reads' HO_6.out).2.2); (case side2 => exact (Kd.R_reads' HO_6.out).2.1); rintro e w214 ⟨v556, rfl, ho0, hb⟩; refine ⟨_, rfl, ?_⟩; have n0_ := M_ (Kd.R_elder' (rU_ HO_5.out) (Kd.R_base ho0) hb); have n1_ := M_ (Kd.R_elder' (rU_ HO_6.out) (Kd.R_base ho0) hb); have n2_ := M_ (Kd.R_elder' (rU_ HO_8.out) (Kd.R_base ho0) hb); have n3_ := M_ (rb_ (rU_ HO_326.out) hb); have n4_ := M_ (Kd.R_lower (Kd.R_new' (Kd.R_new' (Kd.R_new' ho0 (Kd.R_lt (rU_ HO_5.out))) (Kd.R_lt (rU_ HO_6.out))) (Kd.R_lt (rU_ HO_8.out))) bZ_); have n5_ := M_ (bS_ hb); clear HO_5; clear HO_6; clear HO_8; clear HO_326; clear HB; have HO_5 := n0_; have HO_6 := n1_; have HO_8 := n2_; have HO_326 := n3_; have HO557 := n4_; have HB := n5_; clear n0_ n1_ n2_ n3_ n4_ n5_; (try clear hb); (try clear hb2); (try clear hk); (try clear hi); (try clear ho0); obtain ⟨Ao215, co215, eo215⟩ := Kd.R_slice HO557.out; subst eo215; obtain ⟨Ao216, co216, eo216⟩ := Kd.R_slice HO_8.out; subst eo216) | (go_at_call 26; (with_reducible refine (laws_qTempos.calls k6 _ _ t554 _ _ t480 true _ ?side1 ?side2 ?side3 ?side4 A211.out).mono ?_); (case side1 => exact cU_ (Kd.R_reads' HO557.out).2.2); (case side2 => exact (Kd.R_reads' HO557.out).2.1); (case side3 => exact cU_ (Kd.R_reads' HO_8.out).2.2); (case side4 => exact (Kd.R_reads' HO_8.out).2.1); rintro e w' ⟨rfl, ⟨nd, rfl⟩⟩))
                    go_ret
                    exact eW_
                   ·replace c212 := Bool.eq_false_iff.mpr c212
                    subst c212
                    have H1 : (some false) = some r := by rw [if_neg (show ¬ (false = true) by decide)] at H; exact H
                    exact (df_ hrt_ H1).elim
                  ·replace c210 := Bool.eq_false_iff.mpr c210
                   subst c210
                   have H1 : (some false) = some r := by rw [if_neg (show ¬ (false = true) by decide)] at H; exact H
                   exact (df_ hrt_ H1).elim
              ·replace c170 := Bool.eq_false_iff.mpr c170
               subst c170
               have H1 : (some true) = some r := by rw [if_neg (show ¬ (false = true) by decide)] at H; exact H
               clear H
               have H := H1
               clear H1
               obtain rfl := Option.some.inj H
               go_wp2
               go_ret
               exact eW_

/-- THE ONE PURE STATEMENT of laws_FnTempoChanges: yours. -/
def laws_FnTempoChanges.Pure : Prop := ∀ (l0 : List Int) (l1 : List Int), l0.length ≤ maxLen → l0.length * 1 ≤ 140737488351232 → (∀ x ∈ l0, (Lit.int .u8 x).wf = true) → l1.length ≤ maxLen → l1.length * 1 ≤ 140737488351232 → (∀ x ∈ l1, (Lit.int .u8 x).wf = true) → ∃ k, laws_FnTempoChanges.f k l0 l1 = some true
theorem laws_FnTempoChanges.walk (P : laws_FnTempoChanges.Pure) (a0 : Option Addr) (len0 cap0 : Nat) (z0 : List Int) (a1 : Option Addr) (len1 cap1 : Nat) (z1 : List Int) (w : World) (w0 : (a0 = none ∧ len0 = 0 ∧ cap0 = 0 ∧ z0 = []) ∨ ∃ x, a0 = some x ∧ len0 ≤ cap0 ∧ cap0 ≤ maxLen ∧ z0.length = cap0 ∧ (∀ i, i < z0.length → w.cell? (x.add i) = some (.int .u8 (z0.getD i 0))) ∧ ∀ n ∈ z0, (Lit.int .u8 n).wf = true) (y0 : len0 * 1 ≤ 140737488351232) (w1 : (a1 = none ∧ len1 = 0 ∧ cap1 = 0 ∧ z1 = []) ∨ ∃ x, a1 = some x ∧ len1 ≤ cap1 ∧ cap1 ≤ maxLen ∧ z1.length = cap1 ∧ (∀ i, i < z1.length → w.cell? (x.add i) = some (.int .u8 (z1.getD i 0))) ∧ ∀ n ∈ z1, (Lit.int .u8 n).wf = true) (y1 : len1 * 1 ≤ 140737488351232) :
  Calls Try.prog 3 #[.slice a0 len0 cap0, .slice a1 len1 cap1] w fun e w' => e = .returned (.bool true) ∧ Below w.heap.size w w' := by
 obtain ⟨l0, rfl, hr0, hm0, hw0, hc0⟩ := ReadsInt.ofRowC w0
 obtain ⟨l1, rfl, hr1, hm1, hw1, hc1⟩ := ReadsInt.ofRowC w1
 obtain ⟨k, h⟩ := P l0 l1 hm0 y0 hw0 hm1 y1 hw1
 refine (laws_FnTempoChanges.calls k _ _ l0 _ _ l1 true w rfl (Kd.C_of_reads (d := (0 : Int)) (h1 := fun _ => rfl) hr0) hc0 (Kd.C_of_reads (d := (0 : Int)) (h1 := fun _ => rfl) hr1) hc1 h).mono ?_
 rintro e w' ⟨rfl, hd⟩
 exact ⟨rfl, hd⟩

end Go.Proofs.Ytgeipgflhjakjaa.PFnTempoChanges
