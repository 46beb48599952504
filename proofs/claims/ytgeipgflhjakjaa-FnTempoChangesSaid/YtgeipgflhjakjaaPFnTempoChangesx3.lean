-- by wip/xprint.py, over the kit's printer
import Derived.Test.YtgeipgflhjakjaaPFnTempoChangesx0
import Derived.Test.YtgeipgflhjakjaaPFnTempoChangesx2
namespace Go.Proofs.Ytgeipgflhjakjaa.PFnTempoChanges
open Go.RowKit Go.Proofs.YtgeipgflhjakjaaW.PrintWords Go.Proofs.YtgeipgflhjakjaaW.PrintLast Go.Proofs.YtgeipgflhjakjaaW.PrintMore
attribute [local go_sem] max2_int min2_int max_two min_two max_three min_three max_four min_four   -- for this text's walks alone
set_option linter.unusedVariables false
set_option linter.unusedSimpArgs false
private abbrev M_ {p : Prop} (h : p) : Aside0 p := Aside0.mk h
private abbrev la_ := @List.setIfInBounds_toArray
private abbrev lb_ := @List.set_cons_zero
private abbrev lc_ := @List.set_cons_succ
private abbrev bn_ := @pw_below_drewN
private abbrev b1_ := @below_drew1
private abbrev ba_ := @below_alloc
private abbrev bs_ := @below_set
private abbrev kn_ := @blk_drewN
private abbrev ka_ := @blk_alloc
private abbrev kd_ := @blk_drew
private abbrev rn_ := @Kd.R_drewN
private abbrev ra_ := @Kd.R_alloc
private abbrev rd_ := @Kd.R_drew
private abbrev rb_ := @Kd.R_below
private abbrev rm_ := @Kd.R_mono
private abbrev rt_ := @Kd.R_types
private abbrev T_ : Bool := true
private abbrev F_ : Bool := false
private theorem dT_ {p : Prop} [Decidable p] (h : decide p = true := by first | (with_reducible assumption) | assumption) : p := of_decide_eq_true h
private theorem rU_ {α : Type} {d : Kd α} {e : Nat} {w w' : World} {b : Nat} {ok : Nat → Prop} {v : Value} {xs : List α} (h : d.R e w b ok v xs) (u : d.R e w b ok v xs → d.R e w' b ok v xs := by intro h_; (with_reducible repeat (first | apply ra_ | apply rn_ | apply rd_)); exact h_) : d.R e w' b ok v xs := u h
private theorem cU_ {α : Type} {d : Kd α} {w w' : World} {A : Option Addr} {n : Nat} {xs : List α} (h : d.C w A n xs) (u : d.C w A n xs → d.C w' A n xs := by intro h_; repeat (first | exact h_ | (with_reducible refine Kd.C_alloc ?_ _) | (with_reducible refine Kd.C_drewN ?_ _) | (with_reducible refine Kd.C_drew ?_))) : d.C w' A n xs := u h
private theorem gL_ {P : Program} {ops : Array Oper} {Q : Exit → Act → World → Prop} {rest : List Oper} {oi : Oper} {a : Act} {w : World} (N : Option Tmp) (hd : oi.dst = N) (hg : oi.guard = none) {f : FuncId} {fn : Func} {as1 : Array Operand} {ts : Array TypeId} (hf : P.funcs[f]? = some fn) (hname : (fn.name == "runtime.NumGoroutine") = false) (hb : fn.body.isSome = true) (args : Array Value) (hop : oi.op = .call { callee := .value (.func f), args := as1, argTypes := ts }) (h : Calls P f args w fun e w' => ∃ v, e = .returned v ∧ wpList P ops Q rest (a.put N v) w') (hargs : as1.map a.eval = args := by (try simp only [List.map_toArray, List.map_cons, List.map_nil]); first | done | rfl | (simp only [List.length_drop, List.length_take]; rfl)) : wpList P ops Q (oi :: rest) a w := goesL_ N hd hg hf hname hb args hop hargs h
private theorem pR_ {P : Program} {ops : Array Oper} {Q : Exit → Act → World → Prop} {md : Region.Mode} {S : World → Prop} {ds : List Nat} {i : Nat} {N : Option Tmp} {oi : Oper} {v : Value} {fuel : Nat} {l : Array Bool} {a : Act} {w : World} (l' : Array Bool) {a' : Act} (h : wpAnyLast P md ops Q S ds fuel l' a' w) (hi : ops[i]? = some oi := by exact rfl) (hN : oi.dst = N := by exact rfl) (hc : anyB md ops l l' i = true := by exact any_of HT_.out (by kernel_rfl)) (hQ : ∀ c a w, Q (.panic c) (a.put oi.dst v) w → Q (.panic c) a w := by exact fun _ _ _ h => h) (hw : Region.wanted oi (yielded ops a.tmps) = true := by rfl) (hv : ∀ w, (execOp a.eval oi).run P w = .ok (.value v) w := by intro w'; go_simp; with_reducible rfl) (ha : a.put N v = a' := by simp only [Act.put, la_, lb_, lc_, i64_w, i32_w]; rfl) : wpAnyLast P md ops Q S ds (fuel + 1) l a w := pure_ l' hi hN hc hQ (Or.inl ⟨hw, hv⟩) ha h

mutual
def spec_l1Cur_tempos.j0 : Nat → List (S41) → Int → List Int → Int → Int → Option ((List (S41)) × Int × Int)
 | 0, _, _, _, _, _ => none
 | k + 1, x3, x4, x1000, x1001, x1002 => spec_l1Cur_tempos.l0 k x3 x4 x1000 x1001 x1002
def spec_l1Cur_tempos.l0 : Nat → List (S41) → Int → List Int → Int → Int → Option ((List (S41)) × Int × Int)
 | 0, _, _, _, _, _ => none
 | k + 1, x3, x4, x1000, x1001, x1002 => if (x3.length : Int) < x4 then (if 0 ≤ (wrap64 ((x3.length : Int) - 1)) then (if (wrap64 ((x3.length : Int) - 1)) < (x3.length : Int) then ((spec_l1Cur_pick.f x1000 x1001 x1002 40).bind fun bt138 => ((spec_l1Cur_lasts.f x1000 bt138.2.1 bt138.2.2).bind fun bt141 => ((spec_l1Cur_among.f x1000 bt141.2.1 bt141.2.2 (([bt141.1, (rd_T41 x3 (wrap64 ((x3.length : Int) - 1))).f1] : List Int))).bind fun bt148 => (if x3.length < 8796093022208 then (spec_l1Cur_tempos.l0 k (x3 ++ [(⟨wrap64 ((wrap64 (((rd_T41 x3 (wrap64 ((x3.length : Int) - 1))).f0) + 1)) + bt138.1), bt148.1⟩ : S41)]) x4 x1000 bt148.2.1 bt148.2.2) else (none))))) else (none)) else (none)) else (some (x3, x1001, x1002))
end
def spec_l1Cur_tempos.f (k : Nat) (s0_0 : List Int) (s0_1 : Int) (s0_2 : Int) : Option ((List (S41)) × Int × Int) := (spec_l1Cur_lasts.f s0_0 s0_1 s0_2).bind fun bt125 => ((some (([(⟨0, bt125.1⟩ : S41)] : List (S41)) : List (S41))).bind fun y128 => ((spec_l1Cur_pick.f s0_0 bt125.2.1 bt125.2.2 5).bind fun bt131 => ((spec_l1Cur_one.f s0_0 bt131.2.1 bt131.2.2 20).bind fun bt134 => (if bt134.1 = true then (spec_l1Cur_tempos.j0 k y128 20 s0_0 bt134.2.1 bt134.2.2) else (spec_l1Cur_tempos.j0 k y128 (wrap64 (1 + bt131.1)) s0_0 bt134.2.1 bt134.2.2)))))
theorem spec_l1Cur_tempos.mono_l : ∀ k, (∀ y0 y1 y2 y3 y4, LeO (spec_l1Cur_tempos.j0 k y0 y1 y2 y3 y4) (spec_l1Cur_tempos.j0 (k + 1) y0 y1 y2 y3 y4)) ∧ (∀ y0 y1 y2 y3 y4, LeO (spec_l1Cur_tempos.l0 k y0 y1 y2 y3 y4) (spec_l1Cur_tempos.l0 (k + 1) y0 y1 y2 y3 y4))
 | 0 => ⟨fun _ _ _ _ _ r h => by simp [spec_l1Cur_tempos.j0] at h, fun _ _ _ _ _ r h => by simp [spec_l1Cur_tempos.l0] at h⟩
 | k + 1 => by
  obtain ⟨ih0, ih1⟩ := spec_l1Cur_tempos.mono_l k
  refine ⟨?_, ?_⟩
  ·intro y0 y1 y2 y3 y4
   unfold spec_l1Cur_tempos.j0
   repeat' first
   | (with_reducible exact ih0 _ _ _ _ _)
   | (with_reducible exact ih1 _ _ _ _ _)
   | (with_reducible exact LeO.refl _)
   | (with_reducible exact LeO.none _)
   | (with_reducible refine LeO.ite ?_ ?_)
   | (with_reducible refine LeO.bind ?_ (fun _ => ?_))
   | exact ih0 _ _ _ _ _
   | exact ih1 _ _ _ _ _
   | exact LeO.none _
   | refine LeO.ite ?_ ?_
   | refine LeO.bind ?_ (fun _ => ?_)
  ·intro y0 y1 y2 y3 y4
   unfold spec_l1Cur_tempos.l0
   repeat' first
   | (with_reducible exact ih0 _ _ _ _ _)
   | (with_reducible exact ih1 _ _ _ _ _)
   | (with_reducible exact LeO.refl _)
   | (with_reducible exact LeO.none _)
   | (with_reducible refine LeO.ite ?_ ?_)
   | (with_reducible refine LeO.bind ?_ (fun _ => ?_))
   | exact ih0 _ _ _ _ _
   | exact ih1 _ _ _ _ _
   | exact LeO.none _
   | refine LeO.ite ?_ ?_
   | refine LeO.bind ?_ (fun _ => ?_)
theorem spec_l1Cur_tempos.mono : ∀ a0 a1 a2 k, LeO (spec_l1Cur_tempos.f k a0 a1 a2) (spec_l1Cur_tempos.f (k + 1) a0 a1 a2) := by
 intro a0 a1 a2 k
 obtain ⟨ih0, ih1⟩ := spec_l1Cur_tempos.mono_l k
 unfold spec_l1Cur_tempos.f
 repeat' first
   | (with_reducible exact ih0 _ _ _ _ _)
   | (with_reducible exact ih1 _ _ _ _ _)
   | (with_reducible exact LeO.refl _)
   | (with_reducible exact LeO.none _)
   | (with_reducible refine LeO.ite ?_ ?_)
   | (with_reducible refine LeO.bind ?_ (fun _ => ?_))
   | exact ih0 _ _ _ _ _
   | exact ih1 _ _ _ _ _
   | exact LeO.none _
   | refine LeO.ite ?_ ?_
   | refine LeO.bind ?_ (fun _ => ?_)
def spec_l1Cur_tempos.T6 : Bool × List (List Nat × List Nat) := (true, [([], []), ([], []), ([1], [1]), ([2], [2]), ([0, 3], [0, 3]), ([4], [4]), ([5], [5]), ([6], [6]), ([], []), ([8], [8]), ([7, 9], [7, 9]), ([10, 9, 0, 1, 2, 3, 4, 5, 6, 7, 8, 9, 10], [10])])
def spec_l1Cur_tempos.B6 : List Nat := [0, 0, 2, 6, 15, 31, 63, 127, 0, 256, 1023, 2047]
theorem spec_l1Cur_tempos.tab6 : rtab .any (opsOf Try.f116 6) = spec_l1Cur_tempos.T6 := by kernel_rfl
theorem spec_l1Cur_tempos.bits6 : waitsOk spec_l1Cur_tempos.T6.2 spec_l1Cur_tempos.B6 = true := by kernel_rfl
def spec_l1Cur_tempos.T7 : Bool × List (List Nat × List Nat) := (true, [([], []), ([], []), ([], []), ([], []), ([3], [3]), ([], []), ([], []), ([6], [6]), ([7], [7]), ([5, 8], [5, 8]), ([9], [9]), ([10], [10]), ([4, 11], [4, 11]), ([2, 12, 4], [2, 12]), ([1, 13], [1, 13]), ([14], [14]), ([0, 15, 13], [0, 15]), ([16, 16, 0, 1, 2, 3, 4, 5, 6, 7, 8, 9, 10, 11, 12, 13, 14, 15, 16], [0, 5, 6, 16])])
def spec_l1Cur_tempos.B7 : List Nat := [0, 0, 0, 0, 8, 0, 0, 64, 192, 480, 992, 2016, 4088, 8188, 16382, 32766, 65535, 131071]
theorem spec_l1Cur_tempos.tab7 : rtab .any (opsOf Try.f116 7) = spec_l1Cur_tempos.T7 := by kernel_rfl
theorem spec_l1Cur_tempos.bits7 : waitsOk spec_l1Cur_tempos.T7.2 spec_l1Cur_tempos.B7 = true := by kernel_rfl
set_option maxHeartbeats 8000000 in
set_option maxRecDepth 100000 in
theorem spec_l1Cur_tempos.calls (k : Nat) (g : Nat) (s0_0 : List Int) (s0_1 : Int) (s0_2 : Int) (r1 : List (S41)) (r2 : Int) (r3 : Int) (w0 w : World) (hI : IsS86 w0 w g s0_0 s0_1 s0_2) (hB : Below w0.heap.size w0 w) (h : spec_l1Cur_tempos.f k s0_0 s0_1 s0_2 = some (r1, r2, r3)) :
  Calls Try.prog 116 #[.pointer (some ⟨g, 0, none⟩)] w fun e w' => ∃ v0_ : Value, e = .returned (v0_) ∧ Kd.R k41 41 w' w.heap.size (fun _ => True) v0_ r1 ∧ IsS86 w0 w' g s0_0 r2 r3 ∧ Below w0.heap.size w0 w' ∧ KeepBut w w' g none := by
 have hu41 := Try.underlying41
 have HI0 := M_ hI
 have HK := M_ (KeepBut.refl w g none)
 have HL := M_ hB.size
 clear hI
 have HW0 := M_ hB.size
 have HB := M_ hB
 clear hB
 have H : ((spec_l1Cur_lasts.f s0_0 s0_1 s0_2).bind fun bt125 => ((some (([(⟨0, bt125.1⟩ : S41)] : List (S41)) : List (S41))).bind fun y128 => ((spec_l1Cur_pick.f s0_0 bt125.2.1 bt125.2.2 5).bind fun bt131 => ((spec_l1Cur_one.f s0_0 bt131.2.1 bt131.2.2 20).bind fun bt134 => (if bt134.1 = true then (spec_l1Cur_tempos.j0 k y128 20 s0_0 bt134.2.1 bt134.2.2) else (spec_l1Cur_tempos.j0 k y128 (wrap64 (1 + bt131.1)) s0_0 bt134.2.1 bt134.2.2)))))) = some (r1, r2, r3) := h
 clear h
 replace H := Option.bind_eq_some_iff.mp H
 obtain ⟨⟨t125, t126, t127⟩, A20, H⟩ := H
 try dsimp only at H
 have A2 := M_ A20
 clear A20
 obtain ⟨y128, hy128⟩ : ∃ y_ : List (S41), y_ = (([(⟨0, t125⟩ : S41)] : List (S41))) := ⟨_, rfl⟩
 replace H : ((spec_l1Cur_pick.f s0_0 t126 t127 5).bind fun bt131 => ((spec_l1Cur_one.f s0_0 bt131.2.1 bt131.2.2 20).bind fun bt134 => (if bt134.1 = true then (spec_l1Cur_tempos.j0 k y128 20 s0_0 bt134.2.1 bt134.2.2) else (spec_l1Cur_tempos.j0 k y128 (wrap64 (1 + bt131.1)) s0_0 bt134.2.1 bt134.2.2)))) = some (r1, r2, r3) := by first | (rw [hy128]; with_reducible exact H) | (have H2_ := (Option.bind_some _ _).symm.trans H; rw [hy128]; with_reducible exact H2_) | (have H2_ := (Option.bind_some _ _).symm.trans H; with_reducible exact H2_) | with_reducible exact H | (rw [hy128]; exact H) | exact H
 have Ny128 := M_ hy128
 clear hy128
 replace H := Option.bind_eq_some_iff.mp H
 obtain ⟨⟨t131, t132, t133⟩, A30, H⟩ := H
 try dsimp only at H
 have A3 := M_ A30
 clear A30
 replace H := Option.bind_eq_some_iff.mp H
 obtain ⟨⟨t134, t135, t136⟩, A40, H⟩ := H
 try dsimp only at H
 have A4 := M_ A40
 clear A40
 have HC5 := M_ H
 clear H
 go_enter Try.func116, Try.ntmps116
 go_upto_if 14 with (first | ((with_reducible refine gate_callee (f := 132) rfl ?_); refine gL_ (some 7) rfl rfl Try.func132 (by kernel_rfl) rfl #[.pointer (some ⟨g, 0, none⟩)] rfl ?_; (with_reducible refine (spec_l1Cur_lasts.calls g s0_0 s0_1 s0_2 t125 t126 t127 w0 _ ?side1 ?side2 A2.out).mono ?_); (case side1 => repeat (first | (with_reducible first | exact HI0.out | apply IsS86.alloc | apply IsS86.drewN | apply IsS86.drew | apply IsS86.set_1 | apply IsS86.set_2) | exact HI0.out)); (case side2 => repeat (first | (with_reducible first | exact HB.out | apply ba_ | apply bn_ | apply b1_ | refine bs_ ?_ (IsS86.ge HI0.out)) | exact HB.out)); rintro e w6 ⟨rfl, hi, hb, hk⟩; refine ⟨_, rfl, ?_⟩; have n0_ := M_ (KeepBut.trans (by repeat (first | (with_reducible first | exact HK.out | apply KeepBut.set_ | apply keep_drewN | apply keep_drew | apply keep_alloc) | exact HK.out)) hk (.inl rfl)); have n1_ := M_ (hb); have n2_ := M_ (hi); clear HK; clear HB; clear HI0; have HK := n0_; have HB := n1_; have HI0 := n2_; clear n0_ n1_ n2_; (try clear hb); (try clear hb2); (try clear hk); (try clear hi)) | ((with_reducible refine gate_dst (N := 9) rfl ?_); refine Kd.R_lit k41 _ 41 ?hg (N := 9) ?hd (xs := ([(⟨0, t125⟩ : S41)] : List (S41))) (inner := [.int .i64 0, .int .i64 t125]) (ok := fun _ => True) (okp := fun _ => True) ?hr ?hp (fun _ hk => hk) trivial (Below.refl _ _) (Nat.le_refl _) (by simp) ?_; (case hd => rfl); (case hg => rfl); (case hr => first | (go_simp; done) | (go_simp; rfl)); (case hp => exact (Reps.c2 (show Kd.M k41 _ _ _ (⟨0, t125⟩ : S41) [.int .i64 0, .int .i64 t125] from (k41_mkM _ _ _ (⟨0, t125⟩ : S41) )) (Reps.none _ _))); intro v129 w7 ho8 hb hg_ hnew_; clear hg_ hnew_; (first | rw [← Ny128.out] at ho8 | (simp only [Int.reduceToNat] at ho8; rw [← Ny128.out] at ho8)); have n0_ := M_ (Kd.R_lower ho8 (keep_size (w := w) (g := g) (row := none) (by repeat (first | (with_reducible first | exact HK.out | apply KeepBut.set_ | apply keep_drewN | apply keep_drew | apply keep_alloc) | exact HK.out)))); have n1_ := M_ (IsS86.below (by repeat (first | (with_reducible first | exact HI0.out | apply IsS86.alloc | apply IsS86.drewN | apply IsS86.drew | apply IsS86.set_1 | apply IsS86.set_2) | exact HI0.out)) hb); have n2_ := M_ (KeepBut.trans (by repeat (first | (with_reducible first | exact HK.out | apply KeepBut.set_ | apply keep_drewN | apply keep_drew | apply keep_alloc) | exact HK.out)) (KeepBut.of_below hb g none) (.inl rfl)); have n3_ := M_ (below_step (by repeat (first | (with_reducible first | exact HB.out | apply ba_ | apply bn_ | apply b1_ | refine bs_ ?_ (IsS86.ge HI0.out)) | exact HB.out)) hb); clear HI0; clear HK; clear HB; have HO130 := n0_; have HI0 := n1_; have HK := n2_; have HB := n3_; clear n0_ n1_ n2_ n3_; clear hb ho8) | ((with_reducible refine gate_callee (f := 75) rfl ?_); refine gL_ (some 11) rfl rfl Try.func75 (by kernel_rfl) rfl #[.pointer (some ⟨g, 0, none⟩), .int .i64 5] rfl ?_; (with_reducible refine (spec_l1Cur_pick.calls g s0_0 t126 t127 5 t131 t132 t133 w0 _ ?side1 ?side2 A3.out).mono ?_); (case side1 => repeat (first | (with_reducible first | exact HI0.out | apply IsS86.alloc | apply IsS86.drewN | apply IsS86.drew | apply IsS86.set_1 | apply IsS86.set_2) | exact HI0.out)); (case side2 => repeat (first | (with_reducible first | exact HB.out | apply ba_ | apply bn_ | apply b1_ | refine bs_ ?_ (IsS86.ge HI0.out)) | exact HB.out)); rintro e w9 ⟨rfl, hi, hb, hk⟩; refine ⟨_, rfl, ?_⟩; have n0_ := M_ (rm_ (Kd.R_keep (IsS86.apart (show IsS86 w0 _ g s0_0 t126 t127 from by repeat (first | (with_reducible first | exact HI0.out | apply IsS86.alloc | apply IsS86.drewN | apply IsS86.drew | apply IsS86.set_1 | apply IsS86.set_2) | exact HI0.out)) (rU_ HO130.out) (by decide)) hk (fun _ h => h.2)) (fun _ h => h.1)); have n1_ := M_ (KeepBut.trans (by repeat (first | (with_reducible first | exact HK.out | apply KeepBut.set_ | apply keep_drewN | apply keep_drew | apply keep_alloc) | exact HK.out)) hk (.inl rfl)); have n2_ := M_ (hb); have n3_ := M_ (hi); clear HO130; clear HK; clear HB; clear HI0; have HO130 := n0_; have HK := n1_; have HB := n2_; have HI0 := n3_; clear n0_ n1_ n2_ n3_; (try clear hb); (try clear hb2); (try clear hk); (try clear hi)) | ((with_reducible refine gate_callee (f := 133) rfl ?_); refine gL_ (some 14) rfl rfl Try.func133 (by kernel_rfl) rfl #[.pointer (some ⟨g, 0, none⟩), .int .i64 20] rfl ?_; (with_reducible refine (spec_l1Cur_one.calls g s0_0 t132 t133 20 t134 t135 t136 w0 _ ?side1 ?side2 A4.out).mono ?_); (case side1 => repeat (first | (with_reducible first | exact HI0.out | apply IsS86.alloc | apply IsS86.drewN | apply IsS86.drew | apply IsS86.set_1 | apply IsS86.set_2) | exact HI0.out)); (case side2 => repeat (first | (with_reducible first | exact HB.out | apply ba_ | apply bn_ | apply b1_ | refine bs_ ?_ (IsS86.ge HI0.out)) | exact HB.out)); rintro e w10 ⟨rfl, hi, hb, hk⟩; refine ⟨_, rfl, ?_⟩; have n0_ := M_ (rm_ (Kd.R_keep (IsS86.apart (show IsS86 w0 _ g s0_0 t132 t133 from by repeat (first | (with_reducible first | exact HI0.out | apply IsS86.alloc | apply IsS86.drewN | apply IsS86.drew | apply IsS86.set_1 | apply IsS86.set_2) | exact HI0.out)) (rU_ HO130.out) (by decide)) hk (fun _ h => h.2)) (fun _ h => h.1)); have n1_ := M_ (KeepBut.trans (by repeat (first | (with_reducible first | exact HK.out | apply KeepBut.set_ | apply keep_drewN | apply keep_drew | apply keep_alloc) | exact HK.out)) hk (.inl rfl)); have n2_ := M_ (hb); have n3_ := M_ (hi); clear HO130; clear HK; clear HB; clear HI0; have HO130 := n0_; have HK := n1_; have HB := n2_; have HI0 := n3_; clear n0_ n1_ n2_ n3_; (try clear hb); (try clear hb2); (try clear hk); (try clear hi)))
 (try simp only [Act.put, la_, lb_, lc_])
 go_cut [4] (fun v4 wc => ∃ (kq : Nat) (x4_4 : Int), v4 = .int .i64 x4_4 ∧ Aside0 (spec_l1Cur_tempos.j0 kq y128 x4_4 s0_0 t135 t136 = some (r1, r2, r3)) ∧ Aside0 (kq ≤ k) ∧ Aside0 (Kd.R k41 41 wc w.heap.size (fun _ => True) v129 y128) ∧ Aside0 (IsS86 w0 wc g s0_0 t135 t136) ∧ Aside0 (KeepBut w wc g none) ∧ Aside0 (Below w0.heap.size w0 wc))
 case first =>
  have H := HC5.out
  clear HC5
  by_cases c11 : t134 = true
  ·subst c11
   have H1 : (spec_l1Cur_tempos.j0 k y128 20 s0_0 t135 t136) = some (r1, r2, r3) := by rw [if_pos rfl] at H; exact H
   clear H
   have H := H1
   clear H1
   have H' := M_ H
   clear H
   go_wp2
   go_meet
   case rel => exact ⟨_, (20), (by first | rfl | (simp; done) | (simp [*]; done)), H', ⟨by first | omega | exact Nat.le_refl _⟩, ⟨by (with_reducible repeat (first | apply ra_ | apply rn_ | apply rd_)); exact HO130.out⟩, ⟨by repeat (first | (with_reducible first | exact HI0.out | apply IsS86.alloc | apply IsS86.drewN | apply IsS86.drew | apply IsS86.set_1 | apply IsS86.set_2) | exact HI0.out)⟩, ⟨by repeat (first | (with_reducible first | exact HK.out | apply KeepBut.set_ | apply keep_drewN | apply keep_drew | apply keep_alloc) | exact HK.out)⟩, ⟨by repeat (first | (with_reducible first | exact HB.out | apply ba_ | apply bn_ | apply b1_ | refine bs_ ?_ (IsS86.ge HI0.out)) | exact HB.out)⟩⟩
  ·replace c11 := Bool.eq_false_iff.mpr c11
   subst c11
   have H1 : (spec_l1Cur_tempos.j0 k y128 (wrap64 (1 + t131)) s0_0 t135 t136) = some (r1, r2, r3) := by rw [if_neg (show ¬ (false = true) by decide)] at H; exact H
   clear H
   have H := H1
   clear H1
   have H' := M_ H
   clear H
   go_wp2
   go_meet
   case rel => exact ⟨_, (wrap64 (1 + t131)), (by first | rfl | (simp; done) | (simp [*]; done)), H', ⟨by first | omega | exact Nat.le_refl _⟩, ⟨by (with_reducible repeat (first | apply ra_ | apply rn_ | apply rd_)); exact HO130.out⟩, ⟨by repeat (first | (with_reducible first | exact HI0.out | apply IsS86.alloc | apply IsS86.drewN | apply IsS86.drew | apply IsS86.set_1 | apply IsS86.set_2) | exact HI0.out)⟩, ⟨by repeat (first | (with_reducible first | exact HK.out | apply KeepBut.set_ | apply keep_drewN | apply keep_drew | apply keep_alloc) | exact HK.out)⟩, ⟨by repeat (first | (with_reducible first | exact HB.out | apply ba_ | apply bn_ | apply b1_ | refine bs_ ?_ (IsS86.ge HI0.out)) | exact HB.out)⟩⟩
 case rest =>
  clear HC5
  try clear c1
  try clear c2
  try clear p2
  try clear p6
  try clear c7
  try clear c11
  obtain ⟨kq, x4_4, rfl, HA, HJ4, HO_3, HI0, HK, HB⟩ := hcut
  cases kq with
  | zero => exact absurd HA.out (by simp [spec_l1Cur_tempos.j0])
  | succ kj4 =>
   have H := HA.out
   clear HA
   simp only [spec_l1Cur_tempos.j0] at H
   have H' := M_ H
   clear H
   go_wp2
   go_loopg [3] kj4 (fun kq v3 w' => ∃ (x3_2 : List (S41)) (x1001_2 : Int) (x1002_2 : Int), Aside0 (spec_l1Cur_tempos.l0 kq x3_2 x4_4 s0_0 x1001_2 x1002_2 = some (r1, r2, r3)) ∧ Aside0 (kq ≤ kj4) ∧ Aside0 (Kd.R k41 41 w' w.heap.size (fun _ => True) v3 x3_2) ∧ Aside0 (IsS86 w0 w' g s0_0 x1001_2 x1002_2) ∧ Aside0 (KeepBut w w' g none) ∧ Aside0 (Below w0.heap.size w0 w'))
   case atStart => exact ⟨(y128), (t135), (t136), H', ⟨Nat.le_refl _⟩, ⟨by (with_reducible repeat (first | apply ra_ | apply rn_ | apply rd_)); exact HO_3.out⟩, ⟨by repeat (first | (with_reducible first | exact HI0.out | apply IsS86.alloc | apply IsS86.drewN | apply IsS86.drew | apply IsS86.set_1 | apply IsS86.set_2) | exact HI0.out)⟩, ⟨by repeat (first | (with_reducible first | exact HK.out | apply KeepBut.set_ | apply keep_drewN | apply keep_drew | apply keep_alloc) | exact HK.out)⟩, ⟨by repeat (first | (with_reducible first | exact HB.out | apply ba_ | apply bn_ | apply b1_ | refine bs_ ?_ (IsS86.ge HI0.out)) | exact HB.out)⟩⟩
   case round =>
    clear H'
    try clear c1
    try clear c2
    try clear p2
    try clear p6
    try clear c7
    try clear c11
    try clear p2
    try clear p6
    obtain ⟨x3_2, x1001_2, x1002_2, HA, HK2, HO_3, HI0, HK, HB⟩ := hrel
    cases gk with
    | zero => exact absurd HA.out (by simp [spec_l1Cur_tempos.l0])
    | succ k2 =>
     have H := HA.out
     clear HA
     simp only [spec_l1Cur_tempos.l0] at H
     by_cases c12 : (x3_2.length : Int) < x4_4
     ·rw [if_pos c12] at H
      have c12b0 : decide ((x3_2.length : Int) < x4_4) = true := decide_eq_true c12
      clear c12
      obtain ⟨ji13, hji13⟩ : ∃ j_ : Int, (wrap64 ((x3_2.length : Int) - 1)) = j_ := ⟨_, rfl⟩
      replace H : (if 0 ≤ (ji13) then (if (ji13) < (x3_2.length : Int) then ((spec_l1Cur_pick.f s0_0 x1001_2 x1002_2 40).bind fun bt138 => ((spec_l1Cur_lasts.f s0_0 bt138.2.1 bt138.2.2).bind fun bt141 => ((spec_l1Cur_among.f s0_0 bt141.2.1 bt141.2.2 (([bt141.1, (rd_T41 x3_2 (ji13)).f1] : List Int))).bind fun bt148 => (if x3_2.length < 8796093022208 then (spec_l1Cur_tempos.l0 k2 (x3_2 ++ [(⟨wrap64 ((wrap64 (((rd_T41 x3_2 (ji13)).f0) + 1)) + bt138.1), bt148.1⟩ : S41)]) x4_4 s0_0 bt148.2.1 bt148.2.2) else (none))))) else (none)) else (none)) = some (r1, r2, r3) := by first | (rw [hji13] at H; exact H) | (simp only [hji13] at H ⊢; exact H)
      have hji13w : (IntKind.i64.wrap ((x3_2.length : Int) - 1)) = ji13 := (i64_w _).trans hji13
      by_cases c14 : 0 ≤ (ji13)
      ·rw [if_pos c14] at H
       have c14b0 : decide (0 ≤ (ji13)) = true := decide_eq_true c14
       clear c14
       by_cases c15 : (ji13) < (x3_2.length : Int)
       ·rw [if_pos c15] at H
        have c15b0 : decide ((ji13) < (x3_2.length : Int)) = true := decide_eq_true c15
        clear c15
        replace H := Option.bind_eq_some_iff.mp H
        obtain ⟨⟨t138, t139, t140⟩, A160, H⟩ := H
        try dsimp only at H
        have A16 := M_ A160
        clear A160
        replace H := Option.bind_eq_some_iff.mp H
        obtain ⟨⟨t141, t142, t143⟩, A170, H⟩ := H
        try dsimp only at H
        have A17 := M_ A170
        clear A170
        obtain ⟨y145, hy145⟩ : ∃ y_ : List Int, y_ = (([t141, (rd_T41 x3_2 (ji13)).f1] : List Int)) := ⟨_, rfl⟩
        replace H : ((spec_l1Cur_among.f s0_0 t142 t143 y145).bind fun bt148 => (if x3_2.length < 8796093022208 then (spec_l1Cur_tempos.l0 k2 (x3_2 ++ [(⟨wrap64 ((wrap64 (((rd_T41 x3_2 (ji13)).f0) + 1)) + t138), bt148.1⟩ : S41)]) x4_4 s0_0 bt148.2.1 bt148.2.2) else (none))) = some (r1, r2, r3) := by first | (rw [hy145]; with_reducible exact H) | (have H2_ := (Option.bind_some _ _).symm.trans H; rw [hy145]; with_reducible exact H2_) | (have H2_ := (Option.bind_some _ _).symm.trans H; with_reducible exact H2_) | with_reducible exact H | (rw [hy145]; exact H) | exact H
        have Ny145 := M_ hy145
        clear hy145
        replace H := Option.bind_eq_some_iff.mp H
        obtain ⟨⟨t148, t149, t150⟩, A180, H⟩ := H
        try dsimp only at H
        have A18 := M_ A180
        clear A180
        by_cases c19 : x3_2.length < 8796093022208
        ·rw [if_pos c19] at H
         have LMc19 := M_ c19
         clear c19
         obtain ⟨y151, hy151⟩ : ∃ y_ : List (S41), y_ = (x3_2 ++ [(⟨wrap64 ((wrap64 (((rd_T41 x3_2 (ji13)).f0) + 1)) + t138), t148⟩ : S41)]) := ⟨_, rfl⟩
         replace H : (spec_l1Cur_tempos.l0 k2 y151 x4_4 s0_0 t149 t150) = some (r1, r2, r3) := by first | (rw [hy151]; with_reducible exact H) | (have H2_ := (Option.bind_some _ _).symm.trans H; rw [hy151]; with_reducible exact H2_) | (have H2_ := (Option.bind_some _ _).symm.trans H; with_reducible exact H2_) | with_reducible exact H | (rw [hy151]; exact H) | exact H
         have Ny151 := M_ hy151
         clear hy151
         have H' := M_ H
         clear H
         obtain ⟨Ao20, co20, eo20⟩ := Kd.R_slice HO_3.out
         subst eo20
         try go_wp2
         have n0_ := M_ (rd_ HO_3.out)
         have n1_ := M_ (IsS86.drew HI0.out)
         have n2_ := M_ (keep_drew HK.out)
         have n3_ := M_ (b1_ HB.out)
         clear HO_3
         clear HI0
         clear HK
         clear HB
         have HO_3 := n0_
         have HI0 := n1_
         have HK := n2_
         have HB := n3_
         clear n0_ n1_ n2_ n3_
         have p137 : 0 ≤ ((ji13) : Int) := dT_
         have q137 : (ji13) < (x3_2.length : Int) := dT_
         obtain ⟨ad137, e137, hx137_0, hx137_1⟩ := at_T41 (Kd.R_reads' HO_3.out).2.2 (ji13) p137 q137
         cases e137
         replace p137 := eq_true p137
         replace q137 := eq_true q137
         refine start_ (n := 12) (S := fun w' => w'.cell? (ad137.add (((ji13)).toNat * 2)) = some (.int .i64 ((rd_T41 x3_2 (ji13)).f0)) ∧ w'.cell? ⟨(ad137.add (((ji13)).toNat * 2)).block, (ad137.add (((ji13)).toNat * 2)).off + 1, none⟩ = some (.int .i64 ((rd_T41 x3_2 (ji13)).f1))) (ds := []) #[F_,F_,F_,F_,F_,F_,F_,F_,F_,F_,F_,F_] (by kernel_rfl) rfl rfl ⟨hx137_0, hx137_1⟩ (fun hHeld => ?_); refine with_tabW spec_l1Cur_tempos.tab6 spec_l1Cur_tempos.bits6 (fun HT_ HW_ => ?_)
         generalize wr.drew = w21 at HO_3 HI0 HK HB hx137_0 hx137_1 hHeld ⊢
         refine pR_ (i := 0) (N := some 19) #[T_,F_,F_,F_,F_,F_,F_,F_,F_,F_,F_,F_] ?_
         refine pR_ (i := 1) (N := some 20) #[T_,T_,F_,F_,F_,F_,F_,F_,F_,F_,F_,F_] ?_
         refine pR_ (i := 2) (N := some 21) #[T_,T_,T_,F_,F_,F_,F_,F_,F_,F_,F_,F_] ?_
         refine pR_ (i := 3) (N := some 22) #[T_,T_,T_,T_,F_,F_,F_,F_,F_,F_,F_,F_] ?_
         refine pR_ (i := 4) (N := some 23) #[T_,T_,T_,T_,T_,F_,F_,F_,F_,F_,F_,F_] ?_
         refine pR_ (i := 5) (N := some 24) #[T_,T_,T_,T_,T_,T_,F_,F_,F_,F_,F_,F_] ?_
         refine pR_ (i := 8) (N := some 27) #[T_,T_,T_,T_,T_,T_,F_,F_,T_,F_,F_,F_] ?_
         refine take_ (i := 6) (N := some 25) (v := ?_) (a' := ?_) #[T_,T_,T_,T_,T_,T_,T_,F_,T_,F_,F_,F_] rfl rfl (take_ofW HT_.out HW_.out (by kernel_rfl)) (fun _ _ _ h => h) (Or.inl ⟨by rfl, ?_⟩) hHeld ?_ ?_
         rotate_left
         ·rintro w' ⟨s0, s1⟩
          go_simp
          with_reducible rfl
         rotate_left
         ·simp only [Act.put, la_, lb_, lc_, i64_w, i32_w]
          rfl
         refine pR_ (i := 7) (N := some 26) #[T_,T_,T_,T_,T_,T_,T_,T_,T_,F_,F_,F_] ?_
         refine one_ (i := 9) (N := some 28) #[T_,T_,T_,T_,T_,T_,T_,T_,T_,T_,F_,F_] rfl rfl (one_of HT_.out (by kernel_rfl)) (by decide) (fun K hK => ?_)
         refine goes_ Try.func75 (by kernel_rfl) rfl #[.pointer (some ⟨g, 0, none⟩), .int .i64 40] (by rfl) rfl rfl (by (try simp only [List.map_toArray, List.map_cons, List.map_nil]); first | done | rfl | (simp only [List.length_drop, List.length_take]; rfl)) ?_
         with_reducible refine (spec_l1Cur_pick.calls g s0_0 x1001_2 x1002_2 40 t138 t139 t140 w0 _ ?side1 ?side2 A16.out).mono ?_
         (case side1 => repeat (first | (with_reducible first | exact HI0.out | apply IsS86.alloc | apply IsS86.drewN | apply IsS86.drew | apply IsS86.set_1 | apply IsS86.set_2) | exact HI0.out))
         (case side2 => repeat (first | (with_reducible first | exact HB.out | apply ba_ | apply bn_ | apply b1_ | refine bs_ ?_ (IsS86.ge HI0.out)) | exact HB.out))
         rintro e w22 ⟨rfl, hi, hb, hk⟩
         have HS0_ := keep_cell hk (hHeld.1) (by first | (rw [add_block]; exact Kd.own_blk (IsS86.own_ne HI0.out HO_3.out (by decide))) | (show (Addr.add _ _).block ≠ _; rw [add_block]; exact Kd.own_blk (IsS86.own_ne HI0.out HO_3.out (by decide))) | exact Kd.own_blk (IsS86.own_ne HI0.out HO_3.out (by decide)))
         have HS1_ := keep_cell hk (hHeld.2) (by first | (rw [add_block]; exact Kd.own_blk (IsS86.own_ne HI0.out HO_3.out (by decide))) | (show (Addr.add _ _).block ≠ _; rw [add_block]; exact Kd.own_blk (IsS86.own_ne HI0.out HO_3.out (by decide))) | exact Kd.own_blk (IsS86.own_ne HI0.out HO_3.out (by decide)))
         refine ⟨_, rfl, ?_⟩
         have n0_ := M_ (rm_ (Kd.R_keep (IsS86.apart (show IsS86 w0 _ g s0_0 x1001_2 x1002_2 from by repeat (first | (with_reducible first | exact HI0.out | apply IsS86.alloc | apply IsS86.drewN | apply IsS86.drew | apply IsS86.set_1 | apply IsS86.set_2) | exact HI0.out)) (rU_ HO_3.out) (by decide)) hk (fun _ h => h.2)) (fun _ h => h.1))
         have n1_ := M_ (KeepBut.trans (by repeat (first | (with_reducible first | exact HK.out | apply KeepBut.set_ | apply keep_drewN | apply keep_drew | apply keep_alloc) | exact HK.out)) hk (.inl rfl))
         have n2_ := M_ (hb)
         have n3_ := M_ (hi)
         clear HO_3
         clear HK
         clear HB
         clear HI0
         have HO_3 := n0_
         have HK := n1_
         have HB := n2_
         have HI0 := n3_
         clear n0_ n1_ n2_ n3_
         (try clear hb)
         (try clear hb2)
         (try clear hk)
         (try clear hi)
         refine hK.out _ _ ⟨HS0_, HS1_⟩ (fun hHeld => ?_)
         clear hK K
         refine norm_ (a' := ?_) ?_ ?_
         rotate_left
         ·show Act.put _ (some 28) _ = _
          simp only [Act.put, la_, lb_, lc_, i64_w, i32_w]
          rfl
         refine pR_ (i := 10) (N := some 29) #[T_,T_,T_,T_,T_,T_,T_,T_,T_,T_,T_,F_] ?_
         refine pR_ (i := 11) (N := some 5) #[T_,T_,T_,T_,T_,T_,T_,T_,T_,T_,T_,T_] ?_
         refine done_ (done_of HT_.out (by kernel_rfl)) ?_
         try go_wp2
         have n0_ := M_ (rd_ HO_3.out)
         have n1_ := M_ (IsS86.drew HI0.out)
         have n2_ := M_ (keep_drew HK.out)
         have n3_ := M_ (b1_ HB.out)
         clear HO_3
         clear HI0
         clear HK
         clear HB
         have HO_3 := n0_
         have HI0 := n1_
         have HK := n2_
         have HB := n3_
         clear n0_ n1_ n2_ n3_
         have p144 : 0 ≤ ((ji13) : Int) := dT_
         have q144 : (ji13) < (x3_2.length : Int) := dT_
         obtain ⟨ad144, e144, hx144_0, hx144_1⟩ := at_T41 (Kd.R_reads' HO_3.out).2.2 (ji13) p144 q144
         obtain rfl : ad137 = ad144 := (by injection e144)
         replace p144 := eq_true p144
         replace q144 := eq_true q144
         refine start_ (n := 18) (S := fun w' => w'.cell? (ad137.add (((ji13)).toNat * 2)) = some (.int .i64 ((rd_T41 x3_2 (ji13)).f0)) ∧ w'.cell? ⟨(ad137.add (((ji13)).toNat * 2)).block, (ad137.add (((ji13)).toNat * 2)).off + 1, none⟩ = some (.int .i64 ((rd_T41 x3_2 (ji13)).f1))) (ds := [15, 16]) #[F_,F_,F_,F_,F_,F_,F_,F_,F_,F_,F_,F_,F_,F_,F_,F_,F_,F_] (by kernel_rfl) rfl rfl ⟨hx144_0, hx144_1⟩ (fun hHeld => ?_); refine with_tabW spec_l1Cur_tempos.tab7 spec_l1Cur_tempos.bits7 (fun HT_ HW_ => ?_)
         generalize w22.drew = w23 at HO_3 HI0 HK HB hx144_0 hx144_1 hHeld ⊢
         refine pR_ (i := 0) (N := some 30) #[T_,F_,F_,F_,F_,F_,F_,F_,F_,F_,F_,F_,F_,F_,F_,F_,F_,F_] ?_
         refine pR_ (i := 1) (N := some 31) #[T_,T_,F_,F_,F_,F_,F_,F_,F_,F_,F_,F_,F_,F_,F_,F_,F_,F_] ?_
         refine pR_ (i := 2) (N := some 32) #[T_,T_,T_,F_,F_,F_,F_,F_,F_,F_,F_,F_,F_,F_,F_,F_,F_,F_] ?_
         refine pR_ (i := 3) (N := some 33) #[T_,T_,T_,T_,F_,F_,F_,F_,F_,F_,F_,F_,F_,F_,F_,F_,F_,F_] ?_
         refine pR_ (i := 5) (N := some 35) #[T_,T_,T_,T_,F_,T_,F_,F_,F_,F_,F_,F_,F_,F_,F_,F_,F_,F_] ?_
         refine pR_ (i := 6) (N := some 36) #[T_,T_,T_,T_,F_,T_,T_,F_,F_,F_,F_,F_,F_,F_,F_,F_,F_,F_] ?_
         refine pR_ (i := 7) (N := some 37) #[T_,T_,T_,T_,F_,T_,T_,T_,F_,F_,F_,F_,F_,F_,F_,F_,F_,F_] ?_
         refine pR_ (i := 8) (N := some 38) #[T_,T_,T_,T_,F_,T_,T_,T_,T_,F_,F_,F_,F_,F_,F_,F_,F_,F_] ?_
         refine pR_ (i := 9) (N := some 39) #[T_,T_,T_,T_,F_,T_,T_,T_,T_,T_,F_,F_,F_,F_,F_,F_,F_,F_] ?_
         refine pR_ (i := 10) (N := some 40) #[T_,T_,T_,T_,F_,T_,T_,T_,T_,T_,T_,F_,F_,F_,F_,F_,F_,F_] ?_
         refine take_ (i := 11) (N := some 41) (v := ?_) (a' := ?_) #[T_,T_,T_,T_,F_,T_,T_,T_,T_,T_,T_,T_,F_,F_,F_,F_,F_,F_] rfl rfl (take_ofW HT_.out HW_.out (by kernel_rfl)) (fun _ _ _ h => h) (Or.inl ⟨by rfl, ?_⟩) hHeld ?_ ?_
         rotate_left
         ·rintro w' ⟨s0, s1⟩
          go_simp
          with_reducible rfl
         rotate_left
         ·simp only [Act.put, la_, lb_, lc_, i64_w, i32_w]
          rfl
         refine one_ (i := 4) (N := some 34) #[T_,T_,T_,T_,T_,T_,T_,T_,T_,T_,T_,T_,F_,F_,F_,F_,F_,F_] rfl rfl (one_of HT_.out (by kernel_rfl)) (by decide) (fun K hK => ?_)
         refine goes_ Try.func132 (by kernel_rfl) rfl #[.pointer (some ⟨g, 0, none⟩)] (by rfl) rfl rfl (by (try simp only [List.map_toArray, List.map_cons, List.map_nil]); first | done | rfl | (simp only [List.length_drop, List.length_take]; rfl)) ?_
         with_reducible refine (spec_l1Cur_lasts.calls g s0_0 t139 t140 t141 t142 t143 w0 _ ?side1 ?side2 A17.out).mono ?_
         (case side1 => repeat (first | (with_reducible first | exact HI0.out | apply IsS86.alloc | apply IsS86.drewN | apply IsS86.drew | apply IsS86.set_1 | apply IsS86.set_2) | exact HI0.out))
         (case side2 => repeat (first | (with_reducible first | exact HB.out | apply ba_ | apply bn_ | apply b1_ | refine bs_ ?_ (IsS86.ge HI0.out)) | exact HB.out))
         rintro e w24 ⟨rfl, hi, hb, hk⟩
         have HS0_ := keep_cell hk (hHeld.1) (by first | (rw [add_block]; exact Kd.own_blk (IsS86.own_ne HI0.out HO_3.out (by decide))) | (show (Addr.add _ _).block ≠ _; rw [add_block]; exact Kd.own_blk (IsS86.own_ne HI0.out HO_3.out (by decide))) | exact Kd.own_blk (IsS86.own_ne HI0.out HO_3.out (by decide)))
         have HS1_ := keep_cell hk (hHeld.2) (by first | (rw [add_block]; exact Kd.own_blk (IsS86.own_ne HI0.out HO_3.out (by decide))) | (show (Addr.add _ _).block ≠ _; rw [add_block]; exact Kd.own_blk (IsS86.own_ne HI0.out HO_3.out (by decide))) | exact Kd.own_blk (IsS86.own_ne HI0.out HO_3.out (by decide)))
         refine ⟨_, rfl, ?_⟩
         have n0_ := M_ (rm_ (Kd.R_keep (IsS86.apart (show IsS86 w0 _ g s0_0 t139 t140 from by repeat (first | (with_reducible first | exact HI0.out | apply IsS86.alloc | apply IsS86.drewN | apply IsS86.drew | apply IsS86.set_1 | apply IsS86.set_2) | exact HI0.out)) (rU_ HO_3.out) (by decide)) hk (fun _ h => h.2)) (fun _ h => h.1))
         have n1_ := M_ (KeepBut.trans (by repeat (first | (with_reducible first | exact HK.out | apply KeepBut.set_ | apply keep_drewN | apply keep_drew | apply keep_alloc) | exact HK.out)) hk (.inl rfl))
         have n2_ := M_ (hb)
         have n3_ := M_ (hi)
         clear HO_3
         clear HK
         clear HB
         clear HI0
         have HO_3 := n0_
         have HK := n1_
         have HB := n2_
         have HI0 := n3_
         clear n0_ n1_ n2_ n3_
         (try clear hb)
         (try clear hb2)
         (try clear hk)
         (try clear hi)
         refine hK.out _ _ ⟨HS0_, HS1_⟩ (fun hHeld => ?_)
         clear hK K
         refine norm_ (a' := ?_) ?_ ?_
         rotate_left
         ·show Act.put _ (some 34) _ = _
          simp only [Act.put, la_, lb_, lc_, i64_w, i32_w]
          rfl
         refine one_ (i := 12) (N := some 42) #[T_,T_,T_,T_,T_,T_,T_,T_,T_,T_,T_,T_,T_,F_,F_,F_,F_,F_] rfl rfl (one_of HT_.out (by kernel_rfl)) (by decide) (fun K hK => ?_)
         refine Kd.R_lit_step (Kd.int .i64) _ 3 ?hg (N := 42) ?hd (xs := ([t141, (rd_T41 x3_2 (ji13)).f1] : List Int)) (inner := [.int .i64 t141, .int .i64 ((rd_T41 x3_2 (ji13)).f1)]) (ok := fun _ => True) (okp := fun _ => True) ?hr ?hp (fun _ hk => hk) trivial (Below.refl _ _) (Nat.le_refl _) (by simp) ?_; (case hd => rfl); (case hg => rfl); (case hr => first | (go_simp; done) | (go_simp; rfl)); (case hp => exact (Reps.one (show Kd.M (Kd.int .i64) _ _ _ t141 [.int .i64 t141] from rfl) (Reps.one (show Kd.M (Kd.int .i64) _ _ _ ((rd_T41 x3_2 (ji13)).f1) [.int .i64 ((rd_T41 x3_2 (ji13)).f1)] from rfl) (Reps.none _ _))))
         intro v146 w25 ho26 hb hg_ hnew_
         have HS0_ := (hb.cell (World.block_lt_of_cell? _ _ (hHeld.1))).trans (hHeld.1)
         have HS1_ := (hb.cell (World.block_lt_of_cell? _ _ (hHeld.2))).trans (hHeld.2)
         clear hg_ hnew_
         (first | rw [← Ny145.out] at ho26 | (simp only [Int.reduceToNat] at ho26; rw [← Ny145.out] at ho26))
         have n0_ := M_ (rb_ (rU_ HO_3.out) hb)
         have n1_ := M_ (Kd.R_lower ho26 (keep_size (w := w) (g := g) (row := none) (by repeat (first | (with_reducible first | exact HK.out | apply KeepBut.set_ | apply keep_drewN | apply keep_drew | apply keep_alloc) | exact HK.out))))
         have n2_ := M_ (IsS86.below (by repeat (first | (with_reducible first | exact HI0.out | apply IsS86.alloc | apply IsS86.drewN | apply IsS86.drew | apply IsS86.set_1 | apply IsS86.set_2) | exact HI0.out)) hb)
         have n3_ := M_ (KeepBut.trans (by repeat (first | (with_reducible first | exact HK.out | apply KeepBut.set_ | apply keep_drewN | apply keep_drew | apply keep_alloc) | exact HK.out)) (KeepBut.of_below hb g none) (.inl rfl))
         have n4_ := M_ (below_step (by repeat (first | (with_reducible first | exact HB.out | apply ba_ | apply bn_ | apply b1_ | refine bs_ ?_ (IsS86.ge HI0.out)) | exact HB.out)) hb)
         clear HO_3
         clear HI0
         clear HK
         clear HB
         have HO_3 := n0_
         have HO147 := n1_
         have HI0 := n2_
         have HK := n3_
         have HB := n4_
         clear n0_ n1_ n2_ n3_ n4_
         clear hb ho26
         obtain ⟨Ao27, co27, eo27⟩ := Kd.R_slice HO147.out
         (first | subst eo27 | (injection eo27 with f1_ f2_ f3_; have f4_ := f1_.symm; have f5_ := f3_.symm; clear f1_ f2_ f3_; subst f4_; subst f5_))
         refine hK.out _ _ ⟨HS0_, HS1_⟩ (fun hHeld => ?_)
         clear hK K
         refine norm_ (a' := ?_) ?_ ?_
         rotate_left
         ·show Act.put _ (some 42) _ = _
          simp only [Act.put, la_, lb_, lc_, i64_w, i32_w]
          rfl
         refine one_ (i := 13) (N := some 43) #[T_,T_,T_,T_,T_,T_,T_,T_,T_,T_,T_,T_,T_,T_,F_,F_,F_,F_] rfl rfl (one_of HT_.out (by kernel_rfl)) (by decide) (fun K hK => ?_)
         refine goes_ Try.func68 (by kernel_rfl) rfl #[.pointer (some ⟨g, 0, none⟩), .slice Ao27 y145.length co27] (by rfl) rfl rfl (by (try simp only [List.map_toArray, List.map_cons, List.map_nil]); first | done | rfl | (simp only [List.length_drop, List.length_take]; rfl)) ?_
         with_reducible refine (spec_l1Cur_among.calls g s0_0 t142 t143 _ _ y145 t148 t149 t150 w0 _ ?side1 ?side2 ?side3 ?side4 ?side5 A18.out).mono ?_
         (case side1 => repeat (first | (with_reducible first | exact HI0.out | apply IsS86.alloc | apply IsS86.drewN | apply IsS86.drew | apply IsS86.set_1 | apply IsS86.set_2) | exact HI0.out))
         (case side2 => repeat (first | (with_reducible first | exact HB.out | apply ba_ | apply bn_ | apply b1_ | refine bs_ ?_ (IsS86.ge HI0.out)) | exact HB.out))
         (case side3 => exact cU_ (Kd.R_reads' HO147.out).2.2)
         (case side4 => exact (Kd.R_reads' HO147.out).2.1)
         (case side5 => exact far_slice (IsS86.own_ne HI0.out HO147.out (by decide)))
         rintro e w28 ⟨rfl, hi, hb, hk⟩
         have HS0_ := keep_cell hk (hHeld.1) (by first | (rw [add_block]; exact Kd.own_blk (IsS86.own_ne HI0.out HO_3.out (by decide))) | (show (Addr.add _ _).block ≠ _; rw [add_block]; exact Kd.own_blk (IsS86.own_ne HI0.out HO_3.out (by decide))) | exact Kd.own_blk (IsS86.own_ne HI0.out HO_3.out (by decide)))
         have HS1_ := keep_cell hk (hHeld.2) (by first | (rw [add_block]; exact Kd.own_blk (IsS86.own_ne HI0.out HO_3.out (by decide))) | (show (Addr.add _ _).block ≠ _; rw [add_block]; exact Kd.own_blk (IsS86.own_ne HI0.out HO_3.out (by decide))) | exact Kd.own_blk (IsS86.own_ne HI0.out HO_3.out (by decide)))
         refine ⟨_, rfl, ?_⟩
         have n0_ := M_ (rm_ (Kd.R_keep (IsS86.apart (show IsS86 w0 _ g s0_0 t142 t143 from by repeat (first | (with_reducible first | exact HI0.out | apply IsS86.alloc | apply IsS86.drewN | apply IsS86.drew | apply IsS86.set_1 | apply IsS86.set_2) | exact HI0.out)) (rU_ HO_3.out) (by decide)) hk (fun _ h => h.2)) (fun _ h => h.1))
         have n1_ := M_ (rm_ (Kd.R_keep (IsS86.apart (show IsS86 w0 _ g s0_0 t142 t143 from by repeat (first | (with_reducible first | exact HI0.out | apply IsS86.alloc | apply IsS86.drewN | apply IsS86.drew | apply IsS86.set_1 | apply IsS86.set_2) | exact HI0.out)) (rU_ HO147.out) (by decide)) hk (fun _ h => h.2)) (fun _ h => h.1))
         have n2_ := M_ (KeepBut.trans (by repeat (first | (with_reducible first | exact HK.out | apply KeepBut.set_ | apply keep_drewN | apply keep_drew | apply keep_alloc) | exact HK.out)) hk (.inl rfl))
         have n3_ := M_ (hb)
         have n4_ := M_ (hi)
         clear HO_3
         clear HO147
         clear HK
         clear HB
         clear HI0
         have HO_3 := n0_
         have HO147 := n1_
         have HK := n2_
         have HB := n3_
         have HI0 := n4_
         clear n0_ n1_ n2_ n3_ n4_
         (try clear hb)
         (try clear hb2)
         (try clear hk)
         (try clear hi)
         refine hK.out _ _ ⟨HS0_, HS1_⟩ (fun hHeld => ?_)
         clear hK K
         refine norm_ (a' := ?_) ?_ ?_
         rotate_left
         ·show Act.put _ (some 43) _ = _
          simp only [Act.put, la_, lb_, lc_, i64_w, i32_w]
          rfl
         refine pR_ (i := 14) (N := some 44) #[T_,T_,T_,T_,T_,T_,T_,T_,T_,T_,T_,T_,T_,T_,T_,F_,F_,F_] ?_
         refine last_ (i := 15) (N := some 45) #[T_,T_,T_,T_,T_,T_,T_,T_,T_,T_,T_,T_,T_,T_,T_,T_,F_,F_] rfl rfl (one_of HT_.out (by kernel_rfl)) (by decide) (fun K hK => ?_)
         refine value_ (w1 := ?_) (v := ?_) (by rfl) rfl ?_ ?_
         rotate_left 2
         ·go_simp
          constructor
          ·rfl
          ·rfl
         refine hK.out _ _ ?_
         clear hK K
         refine norm_ (a' := ?_) ?_ ?_
         rotate_left
         ·show Act.put _ (some 45) _ = _
          simp only [Act.put, la_, lb_, lc_, i64_w, i32_w]
          rfl
         refine last_ (i := 16) (N := some 46) #[T_,T_,T_,T_,T_,T_,T_,T_,T_,T_,T_,T_,T_,T_,T_,T_,T_,F_] rfl rfl (one_of HT_.out (by kernel_rfl)) (by decide) (fun K hK => ?_)
         refine Kd.R_append_step k41 w.heap.size (by rfl) (.tmp 30) (.tmp 45) 23 41 (.agg #[(.int .i64 0), (.int .i64 0)]) 16 rfl Try.underlying23 info41 rfl (by decide) (by omega) (.slice (some ad137) x3_2.length co20) x3_2 (⟨wrap64 ((wrap64 (((rd_T41 x3_2 (ji13)).f0) + 1)) + t138), t148⟩ : S41) [.int .i64 (wrap64 ((wrap64 (((rd_T41 x3_2 (ji13)).f0) + 1)) + t138)), .int .i64 t148] (fun _ => True) (fun _ => False) rfl rfl ?aP (fun _ hk => hk.elim) ?aF ?aO (Below.refl _ _) ?aS ?aL ?_
         (case aP => exact k41_mkM _ _ _ (⟨wrap64 ((wrap64 (((rd_T41 x3_2 (ji13)).f0) + 1)) + t138), t148⟩ : S41))
         (case aF => exact (fun _ _ => trivial))
         (case aO => exact (rU_ HO_3.out))
         (case aS => exact (keep_size (w := w) (g := g) (row := none) (by repeat (first | (with_reducible first | exact HK.out | apply KeepBut.set_ | apply keep_drewN | apply keep_drew | apply keep_alloc) | exact HK.out))))
         (case aL => have := LMc19.out; omega)
         intro v152 w29 ho hb hg hat
         rw [← Ny151.out] at ho
         have n0_ := M_ (IsS86.grown (by repeat (first | (with_reducible first | exact HI0.out | apply IsS86.alloc | apply IsS86.drewN | apply IsS86.drew | apply IsS86.set_1 | apply IsS86.set_2) | exact HI0.out)) hg (IsS86.own_ne HI0.out HO_3.out (by decide)))
         have n1_ := M_ (Kd.R_over' (rU_ HO147.out) (Kd.R_typed (rU_ HO_3.out)) (by decide) hg)
         have n2_ := M_ (below_weaken (by repeat (first | (with_reducible first | exact HB.out | apply ba_ | apply bn_ | apply b1_ | refine bs_ ?_ (IsS86.ge HI0.out)) | exact HB.out)) HL.out hb)
         have n3_ := M_ (KeepBut.trans (by repeat (first | (with_reducible first | exact HK.out | apply KeepBut.set_ | apply keep_drewN | apply keep_drew | apply keep_alloc) | exact HK.out)) (KeepBut.of_grown hg g) (Kd.R_base2 HO_3.out))
         have n4_ := M_ (ho)
         clear HI0
         clear HO147
         clear HB
         clear HK
         clear HO_3
         have HI0 := n0_
         have HO147 := n1_
         have HB := n2_
         have HK := n3_
         have HO153 := n4_
         clear n0_ n1_ n2_ n3_ n4_
         clear ho hb hg hat
         refine hK.out _ _ ?_
         clear hK K
         refine norm_ (a' := ?_) ?_ ?_
         rotate_left
         ·show Act.put _ (some 46) _ = _
          simp only [Act.put, la_, lb_, lc_, i64_w, i32_w]
          rfl
         refine pR_ (i := 17) (N := some 3) #[T_,T_,T_,T_,T_,T_,T_,T_,T_,T_,T_,T_,T_,T_,T_,T_,T_,T_] ?_
         refine done_ (done_of HT_.out (by kernel_rfl)) ?_
         try go_wp2
         go_roundg k2
         case measure => have := HJ4.out; have := HK2.out; omega
         case rel => exact ⟨(y151), (t149), (t150), H', ⟨by have := HJ4.out; have := HK2.out; omega⟩, ⟨by (with_reducible repeat (first | apply ra_ | apply rn_ | apply rd_)); exact HO153.out⟩, ⟨by repeat (first | (with_reducible first | exact HI0.out | apply IsS86.alloc | apply IsS86.drewN | apply IsS86.drew | apply IsS86.set_1 | apply IsS86.set_2) | exact HI0.out)⟩, ⟨by repeat (first | (with_reducible first | exact HK.out | apply KeepBut.set_ | apply keep_drewN | apply keep_drew | apply keep_alloc) | exact HK.out)⟩, ⟨by repeat (first | (with_reducible first | exact HB.out | apply ba_ | apply bn_ | apply b1_ | refine bs_ ?_ (IsS86.ge HI0.out)) | exact HB.out)⟩⟩
        ·rw [if_neg c19] at H
         exact absurd H (by simp)
       ·rw [if_neg c15] at H
        exact absurd H (by simp)
      ·rw [if_neg c14] at H
       exact absurd H (by simp)
     ·rw [if_neg c12] at H
      have c12b0 : decide ((x3_2.length : Int) < x4_4) = false := decide_eq_false c12
      clear c12
      simp only [Option.some.injEq, Prod.mk.injEq] at H
      obtain ⟨rfl, rfl, rfl⟩ := H
      obtain ⟨Ao30, co30, eo30⟩ := Kd.R_slice HO_3.out
      subst eo30
      go_wp2
      go_ret
      exact ⟨_, by first | rfl | (simp [errW_none, errW_some] <;> rfl) | (simp [*, errW_none, errW_some] <;> rfl), by (with_reducible repeat (first | apply ra_ | apply rn_ | apply rd_)); exact HO_3.out, by (try simp only [show IntKind.u64.wrap 0 = 0 from rfl, Int.add_zero]); repeat (first | (with_reducible first | exact HI0.out | apply IsS86.alloc | apply IsS86.drewN | apply IsS86.drew | apply IsS86.set_1 | apply IsS86.set_2) | exact HI0.out), by repeat (first | (with_reducible first | exact HB.out | apply ba_ | apply bn_ | apply b1_ | refine bs_ ?_ (IsS86.ge HI0.out)) | exact HB.out), by repeat (first | (with_reducible first | exact HK.out | apply KeepBut.set_ | apply keep_drewN | apply keep_drew | apply keep_alloc) | exact HK.out)⟩

end Go.Proofs.Ytgeipgflhjakjaa.PFnTempoChanges
