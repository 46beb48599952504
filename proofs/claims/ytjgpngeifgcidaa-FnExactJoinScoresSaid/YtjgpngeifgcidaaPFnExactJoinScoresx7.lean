-- by wip/xprint.py, over the kit's printer
import Derived.Test.YtjgpngeifgcidaaPFnExactJoinScoresx0
import Derived.Test.YtjgpngeifgcidaaShelf
import Derived.Test.YtjgpngeifgcidaaStb3
import Derived.Test.YtjgpngeifgcidaaNso
import Derived.Deep.RegionHeld3
import Derived.Test.YtjgpngeifgcidaaPFnExactJoinScoresx6
namespace Go.Proofs.Ytjgpngeifgcidaa.PFnExactJoinScores
open Go.RowKit Go.Proofs.YtjgpngeifgcidaaW.PrintWords Go.Proofs.YtjgpngeifgcidaaW.PrintLast Go.Proofs.YtjgpngeifgcidaaW.PrintMore
attribute [local go_sem] max2_int min2_int max_two min_two max_three min_three max_four min_four   -- for this text's walks alone
set_option linter.unusedVariables false
set_option linter.unusedSimpArgs false

/-! ### impl_Note: function 73 -/
def clone_Note.f (l0 : List (S92)) : Option ((List (S92))) := (some (([] : List (S92)) : List (S92))).bind fun y226 => (if y226.length + l0.length < 5864062014805 then (some (y226 ++ l0)) else (none))
set_option maxHeartbeats 8000000 in
set_option maxRecDepth 100000 in
theorem clone_Note.calls (A0 : Option Addr) (c0 : Nat) (l0 : List (S92)) (r : List (S92)) (w : World) (hr0 : Kd.C k92 w A0 l0.length l0) (hc0 : l0.length ≤ c0) (h : clone_Note.f l0 = some r) :
    Calls Try.prog 73 #[.slice A0 l0.length c0] w fun e w' => ∃ v0_ : Value, e = .returned (v0_) ∧ Kd.R k92 92 w' w.heap.size (fun _ => True) v0_ r ∧ Below w.heap.size w w' := by
  have HR0 := Aside0.mk hr0
  have HC0 := Aside0.mk hc0
  clear hr0 hc0
  have HB := Aside0.mk (Below.refl w.heap.size w)
  have H : ((some (([] : List (S92)) : List (S92))).bind fun y226 => (if y226.length + l0.length < 5864062014805 then (some (y226 ++ l0)) else (none))) = some r := h
  clear h
  obtain ⟨y226, hy226⟩ : ∃ y_ : List (S92), y_ = (([] : List (S92))) := ⟨_, rfl⟩
  replace H : (if y226.length + l0.length < 5864062014805 then (some (y226 ++ l0)) else (none)) = some r := by first | (rw [hy226]; with_reducible exact H) | (have H2_ := (Option.bind_some _ _).symm.trans H; rw [hy226]; with_reducible exact H2_) | (have H2_ := (Option.bind_some _ _).symm.trans H; with_reducible exact H2_) | with_reducible exact H | (rw [hy226]; exact H) | exact H
  have Ny226 := Aside0.mk hy226
  clear hy226
  by_cases c2 : y226.length + l0.length < 5864062014805
  · rw [if_pos c2] at H
    have LMc2 := Aside0.mk c2
    clear c2
    obtain ⟨y229, hy229⟩ : ∃ y_ : List (S92), y_ = (y226 ++ l0) := ⟨_, rfl⟩
    replace H : (some y229) = some r := by first | (rw [hy229]; with_reducible exact H) | (have H2_ := (Option.bind_some _ _).symm.trans H; rw [hy229]; with_reducible exact H2_) | (have H2_ := (Option.bind_some _ _).symm.trans H; with_reducible exact H2_) | with_reducible exact H | (rw [hy229]; exact H) | exact H
    have Ny229 := Aside0.mk hy229
    clear hy229
    obtain rfl := Option.some.inj H
    have he : ∀ W : World, (binOp .eql 24 (.slice A0 l0.length c0) (.slice none 0 0)).run Try.prog W = .ok (.bool A0.isNone) W := fun W => Lib.run_eql_slice_nil W 24 92 A0 l0.length c0 0 0 Try.underlying24
    cases A0 with
    | none =>
      have hz : l0 = [] := by
        rcases Nat.eq_zero_or_pos l0.length with h0 | h0
        · exact List.eq_nil_of_length_eq_zero h0
        · obtain ⟨ad, e, _⟩ := HR0.out.2.2 h0
          cases e
      have hq : y229 = [] := by rw [Ny229.out, Ny226.out, hz]; rfl
      have HQ := Aside0.mk hq
      clear hq hz Ny229 Ny226 LMc2
      go_enter Try.func73, Try.ntmps73
      go_wp2
      go_ret
      exact ⟨_, rfl, by rw [HQ.out]; exact Kd.R_nil _ _ _ _ _, by repeat (first | (with_reducible first | exact HB.out | apply below_alloc | apply pw_below_drewN | apply below_drew1) | exact HB.out)⟩
    | some a0 =>
      go_enter Try.func73, Try.ntmps73
      go_wp2_with (first | ((with_reducible refine gate_dst (N := 5) rfl ?_); refine Kd.R_lit k92 _ 92 ?hg (N := 5) ?hd (xs := ([] : List (S92))) (inner := []) (ok := fun _ => True) (okp := fun _ => True) ?hr ?hp (fun _ hk => hk) trivial (Below.refl _ _) (Nat.le_refl _) (by simp) ?_; (case hd => rfl); (case hg => rfl); (case hr => first | (go_simp; done) | (go_simp; rfl)); (case hp => exact (Reps.none _ _)); intro v227 w3 ho4 hb hg_ hnew_; clear hg_ hnew_; (first | rw [← Ny226.out] at ho4 | (simp only [Int.reduceToNat] at ho4; rw [← Ny226.out] at ho4)); have n0_ := Aside0.mk (Kd.R_lower ho4 (below_size (by repeat (first | (with_reducible first | exact HB.out | apply below_alloc | apply pw_below_drewN | apply below_drew1) | exact HB.out)))); have n1_ := Aside0.mk (below_step (by repeat (first | (with_reducible first | exact HB.out | apply below_alloc | apply pw_below_drewN | apply below_drew1) | exact HB.out)) hb); clear HB; have HO228 := n0_; have HB := n1_; clear n0_ n1_; clear hb ho4) | ((with_reducible refine gate_builtin (b := .append) (xs := #[.tmp 5, .tmp 6]) rfl ?_); at_builtin; refine Kd.R_append_rows k92 (w0 := w) w.heap.size rfl (.tmp 5) (.tmp 6) 24 92 (.agg #[(.int .i64 0), (.int .i64 0), (.int .i64 0)]) 24 rfl Try.underlying24 info92 rfl (by decide) (by omega) v227 y226 l0 _ _ _ (fun _ => True) (fun _ => False) rfl rfl ?aO ?aR (fun _ _ h => h) (fun _ h => h.elim) ?aF ?aB ?aS ?aL ?_; (case aR => repeat (first | exact (Kd.C_below HR0.out HB.out) | (with_reducible refine Kd.C_alloc ?_ _) | (with_reducible refine Kd.C_drewN ?_ _) | (with_reducible refine Kd.C_drew ?_))); (case aB => exact (by repeat (first | (with_reducible first | exact HB.out | apply below_alloc | apply pw_below_drewN | apply below_drew1) | exact HB.out))); (case aF => exact (fun _ _ => trivial)); (case aO => exact (by (with_reducible repeat (first | apply Kd.R_alloc | apply Kd.R_drewN | apply Kd.R_drew)); exact HO228.out)); (case aS => exact (below_size (by repeat (first | (with_reducible first | exact HB.out | apply below_alloc | apply pw_below_drewN | apply below_drew1) | exact HB.out)))); (case aL => have := LMc2.out; omega); intro v230 w5 ho hb hg hat; rw [← Ny229.out] at ho; have n0_ := Aside0.mk (hb); have n1_ := Aside0.mk (ho); clear HB; clear HO228; have HB := n0_; have HO231 := n1_; clear n0_ n1_; clear ho hb hg hat))
      go_ret
      exact ⟨_, by first | rfl | (simp [errW_none, errW_some] <;> rfl) | (simp [*, errW_none, errW_some] <;> rfl), by (with_reducible repeat (first | apply Kd.R_alloc | apply Kd.R_drewN | apply Kd.R_drew)); exact HO231.out, by repeat (first | (with_reducible first | exact HB.out | apply below_alloc | apply pw_below_drewN | apply below_drew1) | exact HB.out)⟩
  · rw [if_neg c2] at H
    exact absurd H (by simp)

/-! ### impl_scoreOf: function 74 -/
def impl_scoreOf.f (k : Nat) (l0 : List (S92)) : Option ((List (S92)) × Bool) := (impl_IsScore.f k l0).bind fun t232 => (if t232 = true then (some (l0, true)) else (some (([] : List (S92)), false)))
theorem impl_scoreOf.mono : ∀ a0 k, LeO (impl_scoreOf.f k a0) (impl_scoreOf.f (k + 1) a0) := by
  intro a0 k
  unfold impl_scoreOf.f
  repeat' first
      | (with_reducible exact impl_IsScore.mono _ _)
      | (with_reducible exact LeO.refl _)
      | (with_reducible exact LeO.none _)
      | (with_reducible refine LeO.ite ?_ ?_)
      | (with_reducible refine LeO.bind ?_ (fun _ => ?_))
      | exact impl_IsScore.mono _ _
      | exact LeO.none _
      | refine LeO.ite ?_ ?_
      | refine LeO.bind ?_ (fun _ => ?_)
set_option maxHeartbeats 8000000 in
set_option maxRecDepth 100000 in
theorem impl_scoreOf.calls (k : Nat) (P0_ : Nat → Prop) (u9000_ : Value) (l0 : List (S92)) (r1 : List (S92)) (r2 : Bool) (w0 w : World) (hB : Below w0.heap.size w0 w) (ho0 : Kd.R k92 92 w w0.heap.size P0_ u9000_ l0) (h : impl_scoreOf.f k l0 = some (r1, r2)) :
    Calls Try.prog 74 #[u9000_] w fun e w' => ∃ v0_ : Value, e = .returned (.tuple #[v0_, .bool r2]) ∧ Kd.R k92 92 w' w0.heap.size (fun k_ => (P0_ k_ ∨ w.heap.size ≤ k_)) v0_ r1 ∧ Below w0.heap.size w0 w' ∧ Kept w w' (fun k_ => P0_ k_) := by
  have HO0 := Aside0.mk (show Kd.R k92 92 w w0.heap.size (fun k_ => (P0_ k_ ∨ w.heap.size ≤ k_)) u9000_ l0 from Kd.R_mono ho0 (fun k_ hk => (.inl hk)))
  have HK := Aside0.mk (Kept.refl w (fun k_ => P0_ k_))
  have HW0 := Aside0.mk hB.size
  have HB := Aside0.mk hB
  clear hB
  have H : ((impl_IsScore.f k l0).bind fun t232 => (if t232 = true then (some (l0, true)) else (some (([] : List (S92)), false)))) = some (r1, r2) := h
  clear h
  replace H := Option.bind_eq_some_iff.mp H
  obtain ⟨t232, A20, H⟩ := H
  replace H : (if t232 = true then (some (l0, true)) else (some (([] : List (S92)), false))) = some (r1, r2) := H
  have A2 := Aside0.mk A20
  clear A20
  by_cases c3 : t232 = true
  · subst c3
    have H1 : (some (l0, true)) = some (r1, r2) := by rw [if_pos rfl] at H; exact H
    clear H
    have H := H1
    clear H1
    simp only [Option.some.injEq, Prod.mk.injEq] at H
    obtain ⟨rfl, rfl⟩ := H
    obtain ⟨Ao4, co4, eo4⟩ := Kd.R_slice HO0.out
    subst eo4
    go_enter Try.func74, Try.ntmps74
    go_wp2_with (first | ((with_reducible refine gate_callee (f := 72) rfl ?_); refine goesL_ (some 5) rfl rfl Try.func72 (by kernel_rfl) rfl #[.slice Ao4 l0.length co4] rfl (by (try simp only [List.map_toArray, List.map_cons, List.map_nil]); first | done | rfl | (simp only [List.length_drop, List.length_take]; rfl)) ?_; (with_reducible refine (impl_IsScore.calls k _ _ l0 true _ ?side1 ?side2 A2.out).mono ?_); (case side1 => repeat (first | exact (Kd.R_reads' HO0.out).2.2 | (with_reducible refine Kd.C_alloc ?_ _) | (with_reducible refine Kd.C_drewN ?_ _) | (with_reducible refine Kd.C_drew ?_))); (case side2 => exact (Kd.R_reads' HO0.out).2.1); rintro e w5 ⟨rfl, hb⟩; refine ⟨_, rfl, ?_⟩; have n0_ := Aside0.mk (Kd.R_below (by (with_reducible repeat (first | apply Kd.R_alloc | apply Kd.R_drewN | apply Kd.R_drew)); exact HO0.out) hb); have n1_ := Aside0.mk (Kept.below (S := (fun k_ => P0_ k_)) (by repeat (first | (with_reducible first | exact HK.out | apply Kept.alloc | apply Kept.drewN | apply Kept.drew) | exact HK.out)) hb); have n2_ := Aside0.mk (below_step (by repeat (first | (with_reducible first | exact HB.out | apply below_alloc | apply pw_below_drewN | apply below_drew1) | exact HB.out)) hb); clear HO0; clear HK; clear HB; have HO0 := n0_; have HK := n1_; have HB := n2_; clear n0_ n1_ n2_; (try clear hb); (try clear hb2); (try clear hk); (try clear hi)))
    go_ret2
    exact ⟨_, by first | rfl | (simp [errW_none, errW_some] <;> rfl) | (simp [*, errW_none, errW_some] <;> rfl), by (with_reducible repeat (first | apply Kd.R_alloc | apply Kd.R_drewN | apply Kd.R_drew)); exact HO0.out, by repeat (first | (with_reducible first | exact HB.out | apply below_alloc | apply pw_below_drewN | apply below_drew1) | exact HB.out), by repeat (first | (with_reducible first | exact HK.out | apply Kept.alloc | apply Kept.drewN | apply Kept.drew) | exact HK.out)⟩
  · replace c3 := Bool.eq_false_iff.mpr c3
    subst c3
    have H1 : (some (([] : List (S92)), false)) = some (r1, r2) := by rw [if_neg (show ¬ (false = true) by decide)] at H; exact H
    clear H
    have H := H1
    clear H1
    simp only [Option.some.injEq, Prod.mk.injEq] at H
    obtain ⟨rfl, rfl⟩ := H
    obtain ⟨Ao6, co6, eo6⟩ := Kd.R_slice HO0.out
    subst eo6
    go_enter Try.func74, Try.ntmps74
    go_wp2_with (first | ((with_reducible refine gate_callee (f := 72) rfl ?_); refine goesL_ (some 5) rfl rfl Try.func72 (by kernel_rfl) rfl #[.slice Ao6 l0.length co6] rfl (by (try simp only [List.map_toArray, List.map_cons, List.map_nil]); first | done | rfl | (simp only [List.length_drop, List.length_take]; rfl)) ?_; (with_reducible refine (impl_IsScore.calls k _ _ l0 false _ ?side1 ?side2 A2.out).mono ?_); (case side1 => repeat (first | exact (Kd.R_reads' HO0.out).2.2 | (with_reducible refine Kd.C_alloc ?_ _) | (with_reducible refine Kd.C_drewN ?_ _) | (with_reducible refine Kd.C_drew ?_))); (case side2 => exact (Kd.R_reads' HO0.out).2.1); rintro e w7 ⟨rfl, hb⟩; refine ⟨_, rfl, ?_⟩; have n0_ := Aside0.mk (Kd.R_below (by (with_reducible repeat (first | apply Kd.R_alloc | apply Kd.R_drewN | apply Kd.R_drew)); exact HO0.out) hb); have n1_ := Aside0.mk (Kept.below (S := (fun k_ => P0_ k_)) (by repeat (first | (with_reducible first | exact HK.out | apply Kept.alloc | apply Kept.drewN | apply Kept.drew) | exact HK.out)) hb); have n2_ := Aside0.mk (below_step (by repeat (first | (with_reducible first | exact HB.out | apply below_alloc | apply pw_below_drewN | apply below_drew1) | exact HB.out)) hb); clear HO0; clear HK; clear HB; have HO0 := n0_; have HK := n1_; have HB := n2_; clear n0_ n1_ n2_; (try clear hb); (try clear hb2); (try clear hk); (try clear hi)))
    go_ret2
    exact ⟨_, by first | rfl | (simp [errW_none, errW_some] <;> rfl) | (simp [*, errW_none, errW_some] <;> rfl), by first | exact Kd.R_nil _ _ _ _ _ | exact Kd.N_nil _ _ _ _ _ | exact Kd.V_nil _ _ _ _ _ | exact Kd.Q_nil _ _ _ _ _ | exact Kd.S_nil _ _ _ _ _, by repeat (first | (with_reducible first | exact HB.out | apply below_alloc | apply pw_below_drewN | apply below_drew1) | exact HB.out), by repeat (first | (with_reducible first | exact HK.out | apply Kept.alloc | apply Kept.drewN | apply Kept.drew) | exact HK.out)⟩

-- NOT PRINTED: function 153 (reflectlite_ValueOf)

-- NOT PRINTED: function 154 (reflectlite_Swapper)

-- NOT PRINTED: function 168 (sort_insertionSort_func)

-- NOT PRINTED: function 171 (sort_swapRange_func)

-- NOT PRINTED: function 170 (sort_rotate_func)

-- NOT PRINTED: function 169 (sort_symMerge_func)

-- NOT PRINTED: function 155 (sort_stable_func)

-- NOT PRINTED: function 156 (reflectlite_Value_Len)

-- NOT PRINTED: function 143 (sort_SliceStable)

/-! ### impl_sortedNotes: function 110 -/
-- XSTB
def impl_sortedNotes_lt (a b : S92) : Bool := decide (a.f1 < b.f1 ∨ (a.f1 = b.f1 ∧ a.f0 < b.f0))
def impl_sortedNotes.f (l0 : List (S92)) : Option (List (S92)) := if l0.length < 5864062014805 then some (Srt.nsort impl_sortedNotes_lt l0) else none
def encN_ (x : S92 × Nat) : List Value := [.int .i64 x.1.f0, .int .i64 x.1.f1, .int .i64 x.1.f2]
def ltN_ (a b : S92 × Nat) : Bool := impl_sortedNotes_lt a.1 b.1
instance : Inhabited (S92) := ⟨z92⟩
theorem swo_ltN : Sort.SWO impl_sortedNotes_lt := by
  refine ⟨fun x => ?_, fun x y z h1 h2 => ?_, fun x y z h1 h2 => ?_⟩ <;> simp only [impl_sortedNotes_lt, decide_eq_true_eq, decide_eq_false_iff_not] at * <;> omega
theorem swo_ltN_ : Sort.SWO ltN_ := ⟨fun x => swo_ltN.irrefl _, fun x y z => swo_ltN.trans _ _ _, fun x y z => swo_ltN.ntrans _ _ _⟩
noncomputable def svT_ : TypeInfo := (Try.prog.info? 24).get (by kernel_rfl)
noncomputable def svE_ : TypeInfo := (Try.prog.info? 92).get (by kernel_rfl)
theorem svK_ (n : Nat) (h2 : 2 ≤ n) : Lib.swapperK n svE_ 25 = 9 := by
  have a : svE_.hasPointers = false := by kernel_rfl
  have b : svE_.bytes = 24 := by kernel_rfl
  have c : (n == 0) = false := by simp; omega
  have d : (n == 1) = false := by simp; omega
  simp [Lib.swapperK, a, b, c, d]
set_option maxHeartbeats 4000000 in
set_option maxRecDepth 100000 in
theorem noteLess_grows (a b : S92) (W : World) :
    Calls Try.prog 129 #[.agg #[.int .i64 a.f0, .int .i64 a.f1, .int .i64 a.f2], .agg #[.int .i64 b.f0, .int .i64 b.f1, .int .i64 b.f2]] W fun e w' => e = .returned (.bool (impl_sortedNotes_lt a b)) ∧ w' = (W.alloc (.cells #[.int .i64 a.f0, .int .i64 a.f1, .int .i64 a.f2] 92)).alloc (.cells #[.int .i64 b.f0, .int .i64 b.f1, .int .i64 b.f2] 92) := by
  have hu92 := Try.underlying92
  by_cases h1 : a.f1 = b.f1
  · have hl : impl_sortedNotes_lt a b = decide (a.f0 < b.f0) := by
      unfold impl_sortedNotes_lt; rw [decide_eq_decide]; omega
    rw [hl]
    clear hl
    go_enter Try.func129, Try.ntmps129
    go_wp2
    all_goals (go_ret; first | exact ⟨rfl, rfl⟩ | simp_all)
  · have hl : impl_sortedNotes_lt a b = decide (a.f1 < b.f1) := by
      unfold impl_sortedNotes_lt; rw [decide_eq_decide]; omega
    rw [hl]
    clear hl
    go_enter Try.func129, Try.ntmps129
    go_wp2
    all_goals (go_ret; first | exact ⟨rfl, rfl⟩ | simp_all)
set_option maxHeartbeats 4000000 in
set_option maxRecDepth 100000 in
theorem less_calls (g c Bs size : Nat) (W : World) (G : Nat → S92) (hs : W.cell? ⟨Bs, 0, none⟩ = some (.slice (some ⟨g, 0, none⟩) size c))
    (hc : ∀ t, t < size → W.cell? ⟨g, t * 3, none⟩ = some (.int .i64 (G t).f0) ∧ W.cell? ⟨g, t * 3 + 1, none⟩ = some (.int .i64 (G t).f1) ∧ W.cell? ⟨g, t * 3 + 2, none⟩ = some (.int .i64 (G t).f2)) (i j : Nat) (hi : i < size) (hj : j < size) (_hsz : size < 4611686018427387904) :
    Calls Try.prog 144 #[.int .i64 i, .int .i64 j, .pointer (some ⟨Bs, 0, none⟩)] W fun e w' => e = .returned (.bool (impl_sortedNotes_lt (G i) (G j))) ∧ ∃ q os', w' = Sort.grow (Sort.ahead W q) os' := by
  have hu92 := Try.underlying92
  obtain ⟨i0, i1, i2⟩ := hc i hi
  obtain ⟨j0, j1, j2⟩ := hc j hj
  clear hc
  generalize G i = a at *
  generalize G j = b at *
  have b1 : (0 : Int) ≤ (i : Int) := Int.natCast_nonneg i
  have b2 : (i : Int) < (size : Int) := Int.ofNat_lt.2 hi
  have b3 : (0 : Int) ≤ (j : Int) := Int.natCast_nonneg j
  have b4 : (j : Int) < (size : Int) := Int.ofNat_lt.2 hj
  go_enter Try.func144, Try.ntmps144
  go_wp2
  go_region_held3 (fun w' => w'.cell? ⟨Bs, 0, none⟩ = some (.slice (some ⟨g, 0, none⟩) size c) ∧ w'.cell? ⟨g, i * 3, none⟩ = some (.int .i64 a.f0) ∧ w'.cell? ⟨g, i * 3 + 1, none⟩ = some (.int .i64 a.f1) ∧ w'.cell? ⟨g, i * 3 + 2, none⟩ = some (.int .i64 a.f2) ∧ w'.cell? ⟨g, j * 3, none⟩ = some (.int .i64 b.f0) ∧ w'.cell? ⟨g, j * 3 + 1, none⟩ = some (.int .i64 b.f1) ∧ w'.cell? ⟨g, j * 3 + 2, none⟩ = some (.int .i64 b.f2)) (go_keep)
    (first | (go_at_call 129; refine (noteLess_grows a b _).mono ?_; rintro e w' ⟨rfl, rfl⟩))
  go_wp2
  go_ret
  refine ⟨rfl, 1, #[.cells #[.int .i64 a.f0, .int .i64 a.f1, .int .i64 a.f2] 92, .cells #[.int .i64 b.f0, .int .i64 b.f1, .int .i64 b.f2] 92], ?_⟩
  show World.drew _ = _
  rw [Sort.alloc_eq_grow, Sort.alloc_eq_grow, Sort.grow_grow]
  rfl
open Go.Sort Go.Proofs Go.Lib in
theorem lessK_ (g c Bs : Nat) (d : Array (S92 × Nat)) (wB : World) (hs : wB.cell? ⟨Bs, 0, none⟩ = some (.slice (some ⟨g, 0, none⟩) d.size c)) (hne : Bs ≠ g) (hBs : Bs < wB.heap.size) (hH : HoldsK encN_ 3 wB g 0 d) (hg : g < wB.heap.size) (hsz : d.size < 4611686018427387904) :
    Stb.LessK Try.prog 144 #[.pointer (some ⟨Bs, 0, none⟩)] encN_ 3 ltN_ g 0 d.size wB := by
  intro W dk hW hsd i j hi hj
  have hHk : HoldsK encN_ 3 W g 0 dk := hW.holds hg hH hsd
  refine (less_calls g c Bs d.size W (fun t => dk[t]!.1) ((Stb.cell_step encN_ 3 hW _ hne hBs).trans hs) (fun t ht => ?_) i j hi hj hsz).mono ?_
  · have h0 := (hHk.cell (i := t) (c := 0) (by omega) (by omega)).1
    have h1 := (hHk.cell (i := t) (c := 1) (by omega) (by omega)).1
    have h2 := (hHk.cell (i := t) (c := 2) (by omega) (by omega)).1
    rw [Nat.zero_add] at h0 h1 h2
    exact ⟨h0, h1, h2⟩
  · rintro e w' ⟨rfl, q, os, rfl⟩
    refine ⟨rfl, q, os, ?_⟩
    unfold sortWorldK
    rw [putRowK_self encN_ 3 _ g 0 dk (holdsK_ahead encN_ 3 W q g 0 dk hHk)]
open Go.Sort Go.Proofs Go.Lib in
theorem holds_of_R {w : World} {base g n c : Nat} {ok : Nat → Prop} {l0 : List (S92)} (h : Kd.R k92 92 w base ok (.slice (some ⟨g, 0, none⟩) n c) l0) : HoldsK encN_ 3 w g 0 l0.zipIdx.toArray := by
  have hC := (Kd.R_reads' h).2.2
  obtain ⟨_, inner, hown, _⟩ := h
  rcases hown.2 with ⟨hv, _⟩ | ⟨g', cap, cur, hv, hb, hh, _⟩
  · cases hv
  injection hv with ha
  injection ha with ha
  injection ha with hg
  subst hg
  intro j hj
  have hj' : j < l0.length * 3 := by simpa using hj
  have hq : j / 3 < l0.length := by omega
  refine ⟨?_, blk_frozen hh _⟩
  rw [get_flatK encN_ 3 _ j (by simpa using hj')]
  obtain ⟨ad, e, h0, h1, h2⟩ := at_T92 hC ((j / 3 : Nat) : Int) (by omega) (by omega)
  injection e with e
  subst e
  rw [Int.toNat_natCast, add_plain] at h0 h1 h2
  have hx : (l0.zipIdx.toArray[j / 3]!).1 = rd_T92 l0 ((j / 3 : Nat) : Int) := by
    rw [getElem!_pos _ (j / 3) (by simpa using hq)]
    unfold rd_T92
    rw [Int.toNat_natCast, List.getD_eq_getElem?_getD, List.getElem?_eq_getElem hq]
    simp
  have hm : j % 3 = 0 ∨ j % 3 = 1 ∨ j % 3 = 2 := by omega
  unfold encN_
  rw [hx, Nat.zero_add]
  generalize rd_T92 l0 ((j / 3 : Nat) : Int) = X at h0 h1 h2 ⊢
  rcases hm with m | m | m
  · rw [← show j = j / 3 * 3 by omega] at h0; rw [m]; exact h0
  · rw [← show j = j / 3 * 3 + 1 by omega] at h1; rw [m]; exact h1
  · rw [← show j = j / 3 * 3 + 2 by omega] at h2; rw [m]; exact h2
theorem take_putCells_id (cur F : Array Value) (h : F.size ≤ cur.size) : (Sort.putCells id 0 F cur).toList.take F.size = F.toList := by
  apply List.ext_getElem?
  intro j
  by_cases hj : j < F.size
  · rw [List.getElem?_take_of_lt hj, Array.getElem?_toList]
    simp [Sort.putCells, hj, show j < cur.size by omega]
  · rw [List.getElem?_take_eq_none (by omega), List.getElem?_eq_none (by simp; omega)]
theorem flat_elem (d : Array (S92 × Nat)) (j : Nat) (hj : j < d.size) : (((Sort.flatK encN_ 3 d).toList.drop (j * 3)).take 3) = encN_ d[j]! := by
  apply List.ext_getElem?
  intro t
  by_cases ht : t < 3
  · have hlt : j * 3 + t < d.size * 3 := by omega
    have h := Sort.get_flatK encN_ 3 d (j * 3 + t) hlt
    rw [show (j * 3 + t) / 3 = j by omega, show (j * 3 + t) % 3 = t by omega] at h
    rw [List.getElem?_take_of_lt ht, List.getElem?_drop, Array.getElem?_toList]
    rw [Array.getElem?_eq_getElem (by rw [Sort.size_flatK]; exact hlt), ← getElem!_pos (Sort.flatK encN_ 3 d) (j * 3 + t) (by rw [Sort.size_flatK]; exact hlt), h]
    have h3 : t < (encN_ d[j]!).length := ht
    rw [List.getElem?_eq_getElem h3, getElem!_pos (encN_ d[j]!) t h3]
  · rw [List.getElem?_take_eq_none (by omega), List.getElem?_eq_none (by show 3 ≤ t; omega)]
open Go.Sort Go.Proofs Go.Lib in
theorem R_after_sort {wB w' : World} {base g n c : Nat} {ok : Nat → Prop} {l0 : List (S92)} {d' : Array (S92 × Nat)} (h : Kd.R k92 92 wB base ok (.slice (some ⟨g, 0, none⟩) n c) l0) (hs : d'.size = l0.length) (hW : SWK encN_ 3 wB g 0 d' w') :
    Kd.R k92 92 w' base ok (.slice (some ⟨g, 0, none⟩) n c) (d'.toList.map Prod.fst) ∧ wB.grownBy w' (some g) := by
  obtain ⟨q, os, rfl⟩ := hW
  obtain ⟨hok, inner, hown, _⟩ := h
  have hlen : (d'.toList.map Prod.fst).length = l0.length := by simp [hs]
  rcases hown.2 with ⟨hv, _⟩ | ⟨g', cap, cur, hv, hb, hh, hl, hcm, hcs, ht⟩
  · cases hv
  injection hv with ha hn hc
  injection ha with ha
  injection ha with hg
  subst hg; subst hn; subst hc
  have hgs : g < wB.heap.size := (Array.getElem?_eq_some_iff.1 hh).1
  have hFs : (flatK encN_ 3 d').size = l0.length * 3 := by rw [size_flatK, hs]
  have hsz3 : k92.sz = 3 := rfl
  rw [hsz3] at hcs
  have hheap : (sortWorldK encN_ 3 wB g 0 q d' os).heap[g]? = some (.cells (putCells id 0 (flatK encN_ 3 d') cur) 92 (0, 0)) := by
    unfold sortWorldK putRowK
    rw [heap_grow_old _ _ (by simpa using hgs)]
    simp [putRow, mapBlock, Sort.ahead, Array.getElem?_modify, hh, onCells]
  refine ⟨⟨hok, (flatK encN_ 3 d').toList, ⟨?_, .inr ⟨g, c, _, by rw [hlen], hb, hheap, by rw [hlen]; exact hl, hcm, ?_, ?_⟩⟩, ?_, ?_⟩, ?_⟩
  · rw [hlen, hsz3]; simpa using hFs
  · rw [hsz3, ← hcs]; simp [putCells]
  · rw [hlen, hsz3, ← hFs]
    exact take_putCells_id cur _ (by rw [hFs, hcs]; exact Nat.mul_le_mul_right 3 hl)
  · rw [hlen, hsz3]; simpa using hFs
  · intro j p hp
    rw [List.getElem?_map] at hp
    have hj : j < d'.size := by
      rcases Nat.lt_or_ge j d'.size with h | h
      · exact h
      · rw [List.getElem?_eq_none (by simpa using h)] at hp; cases hp
    rw [List.getElem?_eq_getElem (by simpa using hj)] at hp
    injection hp with hp
    rw [hsz3, flat_elem d' j hj, getElem!_pos d' j hj]
    rw [← hp]
    exact k92_mkM _ _ _ _
  · refine ⟨rfl, rfl, rfl, ?_, fun k hk hne => ?_⟩
    · exact (SWK.le ⟨q, os, rfl⟩ : wB.heap.size ≤ (sortWorldK encN_ 3 wB g 0 q d' os).heap.size)
    · unfold sortWorldK putRowK
      rw [heap_grow_old _ _ (by simpa using hk)]
      have : g ≠ k := fun e => hne (by rw [e])
      simp [putRow, mapBlock, Sort.ahead, Array.getElem?_modify, this]
open Go.Sort Go.Proofs Go.Lib Srt in
theorem sort_call (A : Option Addr) (n c Bs : Nat) (base : Nat) (ok : Nat → Prop) (l0 : List (S92)) (wB : World) (hR : Kd.R k92 92 wB base ok (.slice A n c) l0) (hs : wB.cell? ⟨Bs, 0, none⟩ = some (.slice A n c)) (hne : ∀ g, (Value.slice A n c).ownBlock = some g → Bs ≠ g) (hBs : Bs < wB.heap.size) (hl : l0.length < 5864062014805) :
    Calls Try.prog 143 #[.iface 24 (.slice A n c), .func (.func 144) #[] #[.pointer (some ⟨Bs, 0, none⟩)]] wB fun e w' => e = .returned (.tuple #[]) ∧ Kd.R k92 92 w' base ok (.slice A n c) (nsort impl_sortedNotes_lt l0) ∧ (∀ w0 : World, base = w0.heap.size → Below w0.heap.size w0 wB → Below w0.heap.size w0 w') ∧ w'.cell? ⟨Bs, 0, none⟩ = some (.slice A n c) := by
  have hn : n = l0.length := (Kd.R_reads' hR).1
  by_cases h2 : 2 ≤ l0.length
  · obtain ⟨_, inner, hown, _⟩ := id hR
    rcases hown.2 with ⟨hv, hz⟩ | ⟨g, cap, cur, hv, hb, hh, _⟩
    · omega
    injection hv with ha _ _
    subst ha
    have hgs : g < wB.heap.size := (Array.getElem?_eq_some_iff.1 hh).1
    have hBg : Bs ≠ g := hne g rfl
    have hz : l0.zipIdx.toArray.size = l0.length := by simp
    have hH := holds_of_R hR
    have hs' : wB.cell? ⟨Bs, 0, none⟩ = some (.slice (some ⟨g, 0, none⟩) l0.zipIdx.toArray.size c) := by rw [hs, hn, hz]
    have hless := lessK_ g c Bs l0.zipIdx.toArray wB hs' hBg hBs hH hgs (by omega)
    have h := Stb.sliceStable_cells Try.laysGt8 24 92 svT_ svE_ (by kernel_rfl) (by kernel_rfl) (by kernel_rfl) (by kernel_rfl) 25 (fun _ => by kernel_rfl) encN_ 3 (fun _ => rfl) (by kernel_rfl) (fun _ => by kernel_rfl)
      (fun x v hv => by simp [encN_] at hv; rcases hv with rfl | rfl | rfl <;> rfl) ltN_ Prod.snd swo_ltN_ 144 _
      (enters_of Try.func144 (by kernel_rfl) rfl) g 0 c l0.zipIdx.toArray (by omega) (by omega) 167 (by rw [svK_ _ (by omega)]; kernel_rfl) false
      (fun args W => run_callFunc_extern Try.func167 (by kernel_rfl) (by kernel_rfl) (by kernel_rfl) (e := Extern.ReflectliteSwapper.swap false) (by kernel_rfl) args W) wB hless hH hgs (zip_inc l0)
    rw [hz] at h
    subst hn
    refine h.mono ?_
    rintro e w' ⟨he, d', P1, S1, W1⟩
    have hds : d'.size = l0.length := P1.1.trans hz
    have hA := R_after_sort hR hds W1
    rw [stable_list swo_ltN l0 d' P1 S1] at hA
    exact ⟨he, hA.1, fun w0 e0 hB => hB.grown hA.2 hB.size (fun k hk => by injection hk with hk; subst hk; omega), (Stb.cell_step encN_ 3 W1 _ hBg hBs).trans hs⟩
  · have hnil : nsort impl_sortedNotes_lt l0 = l0 := by
      match l0, h2 with
      | [], _ => rfl
      | [x], _ => rfl
      | _ :: _ :: _, h2 => exact absurd (by simp) h2
    rw [hnil]
    have hn1 : n ≤ 1 := by omega
    have hf : ∃ f, Try.prog.funcs.findIdx? (·.name == "internal/reflectlite" ++ ".Swapper$" ++ toString (swapperK n svE_ 25)) = some f := by
      rcases Nat.lt_or_ge n 1 with h | h
      · obtain rfl : n = 0 := by omega
        exact ⟨159, by kernel_rfl⟩
      · obtain rfl : n = 1 := by omega
        exact ⟨160, by kernel_rfl⟩
    obtain ⟨f, hf⟩ := hf
    have h := Any.sort_SliceStable_tiny Try.laysGt8 24 92 svT_ svE_ (by kernel_rfl) (by kernel_rfl) (by kernel_rfl) (by kernel_rfl) 25 (fun _ => by kernel_rfl) A n c hn1 f hf (.func 144) #[] #[.pointer (some ⟨Bs, 0, none⟩)] wB
    refine h.mono ?_
    rintro e w' ⟨he, os, rfl⟩
    have hb : Below wB.heap.size wB (Sort.grow wB os) := ⟨rfl, rfl, rfl, by rw [size_grow]; omega, fun k hk => heap_grow_old _ _ hk⟩
    exact ⟨he, Kd.R_below hR hb, fun w0 e0 hB => hB.trans ⟨hb.os, hb.tape, hb.output, hb.size, fun k hk => hb.block k (Nat.lt_of_lt_of_le hk hB.size)⟩, (hb.cell hBs).trans hs⟩
set_option maxHeartbeats 8000000 in
set_option maxRecDepth 100000 in
theorem impl_sortedNotes.calls (A0 : Option Addr) (c0 : Nat) (l0 : List (S92)) (r : List (S92)) (w : World) (hr0 : Kd.C k92 w A0 l0.length l0) (hc0 : l0.length ≤ c0) (h : impl_sortedNotes.f l0 = some r) :
    Calls Try.prog 110 #[.slice A0 l0.length c0] w fun e w' => ∃ v0_ : Value, e = .returned (v0_) ∧ Kd.R k92 92 w' w.heap.size (fun _ => True) v0_ r ∧ Below w.heap.size w w' := by
  unfold impl_sortedNotes.f at h
  by_cases hl : l0.length < 5864062014805
  case neg => rw [if_neg hl] at h; cases h
  rw [if_pos hl] at h
  obtain rfl := Option.some.inj h
  clear h
  have hcl : clone_Note.f l0 = some l0 := by
    unfold clone_Note.f
    show (if ([] : List (S92)).length + l0.length < 5864062014805 then some ([] ++ l0) else none) = some l0
    rw [if_pos (by simpa using hl), List.nil_append]
  have hc : Calls Try.prog 73 #[.slice A0 l0.length c0] w fun e w' => ∃ (A : Option Addr) (n c : Nat), e = .returned (.slice A n c) ∧ Kd.R k92 92 w' w.heap.size (fun _ => True) (.slice A n c) l0 ∧ Below w.heap.size w w' := by
    refine (clone_Note.calls A0 c0 l0 l0 w hr0 hc0 hcl).mono ?_
    rintro e w' ⟨v0, rfl, hR, hB⟩
    obtain ⟨A, c, rfl, _⟩ := Kd.R_reads hR
    exact ⟨A, _, c, rfl, hR, hB⟩
  clear hr0 hcl
  go_enter Try.func110, Try.ntmps110
  go_wp2_with (first | (go_at_call 73; refine hc.mono ?_; rintro e w1 ⟨A, n, c, rfl, hR, hB⟩; have HR := Aside0.mk hR; have HB := Aside0.mk hB; clear hR hB) | (go_at_call 143; refine (sort_call A n c w1.heap.size w.heap.size (fun _ => True) l0 (w1.alloc (.cells #[.slice A n c] 24)) (Kd.R_alloc HR.out _) (by simp) (fun g hg e => by have := Kd.R_lt HR.out g hg; omega) (by simp) hl).mono ?_; rintro e w2 ⟨rfl, hR2, hB2, hc2⟩; have HR2 := Aside0.mk hR2; have HB2 := Aside0.mk hB2; clear hR2 hB2))
  go_ret
  exact ⟨_, rfl, HR2.out, HB2.out w rfl (below_alloc HB.out _)⟩

/-! ### impl_JoinScores: function 51 -/
def impl_JoinScores.j0 : Nat → List (S92) → List (S92) → Bool → Option ((List (S92)) × Bool)
  | 0, _, _, _ => none
  | k + 1, x0, x1, x13 => if x13 = true then (some (([] : List (S92)), false)) else ((clone_Note.f x0).bind fun t235 => (if t235.length + x1.length < 5864062014805 then ((impl_sortedNotes.f (t235 ++ x1)).bind fun t241 => ((impl_scoreOf.f k t241).bind fun bt244 => (some (bt244.1, bt244.2)))) else (none)))
def impl_JoinScores.f (k : Nat) (l0 : List (S92)) (l1 : List (S92)) : Option ((List (S92)) × Bool) := (impl_IsScore.f k l0).bind fun t233 => (if t233 = true then ((impl_IsScore.f k l1).bind fun t234 => (impl_JoinScores.j0 k l0 l1 (!t234))) else (impl_JoinScores.j0 k l0 l1 true))
theorem impl_JoinScores.mono_l : ∀ k, (∀ y0 y1 y2, LeO (impl_JoinScores.j0 k y0 y1 y2) (impl_JoinScores.j0 (k + 1) y0 y1 y2))
  | 0 => fun _ _ _ r h => by simp [impl_JoinScores.j0] at h
  | k + 1 => by
    have ih0 := impl_JoinScores.mono_l k
    · intro y0 y1 y2
      unfold impl_JoinScores.j0
      repeat' first
      | (with_reducible exact ih0 _ _ _)
      | (with_reducible exact impl_IsScore.mono _ _)
      | (with_reducible exact impl_scoreOf.mono _ _)
      | (with_reducible exact LeO.refl _)
      | (with_reducible exact LeO.none _)
      | (with_reducible refine LeO.ite ?_ ?_)
      | (with_reducible refine LeO.bind ?_ (fun _ => ?_))
      | exact ih0 _ _ _
      | exact impl_IsScore.mono _ _
      | exact impl_scoreOf.mono _ _
      | exact LeO.none _
      | refine LeO.ite ?_ ?_
      | refine LeO.bind ?_ (fun _ => ?_)
theorem impl_JoinScores.mono : ∀ a0 a1 k, LeO (impl_JoinScores.f k a0 a1) (impl_JoinScores.f (k + 1) a0 a1) := by
  intro a0 a1 k
  have ih0 := impl_JoinScores.mono_l k
  unfold impl_JoinScores.f
  repeat' first
      | (with_reducible exact ih0 _ _ _)
      | (with_reducible exact impl_IsScore.mono _ _)
      | (with_reducible exact impl_scoreOf.mono _ _)
      | (with_reducible exact LeO.refl _)
      | (with_reducible exact LeO.none _)
      | (with_reducible refine LeO.ite ?_ ?_)
      | (with_reducible refine LeO.bind ?_ (fun _ => ?_))
      | exact ih0 _ _ _
      | exact impl_IsScore.mono _ _
      | exact impl_scoreOf.mono _ _
      | exact LeO.none _
      | refine LeO.ite ?_ ?_
      | refine LeO.bind ?_ (fun _ => ?_)
set_option maxHeartbeats 8000000 in
set_option maxRecDepth 100000 in
theorem impl_JoinScores.calls (k : Nat) (A0 : Option Addr) (c0 : Nat) (l0 : List (S92)) (A1 : Option Addr) (c1 : Nat) (l1 : List (S92)) (r1 : List (S92)) (r2 : Bool) (w : World) (hr0 : Kd.C k92 w A0 l0.length l0) (hc0 : l0.length ≤ c0) (hr1 : Kd.C k92 w A1 l1.length l1) (hc1 : l1.length ≤ c1) (h : impl_JoinScores.f k l0 l1 = some (r1, r2)) :
    Calls Try.prog 51 #[.slice A0 l0.length c0, .slice A1 l1.length c1] w fun e w' => ∃ v0_ : Value, e = .returned (.tuple #[v0_, .bool r2]) ∧ Kd.R k92 92 w' w.heap.size (fun _ => True) v0_ r1 ∧ Below w.heap.size w w' := by
  have HR0 := Aside0.mk hr0
  have HC0 := Aside0.mk hc0
  clear hr0 hc0
  have HR1 := Aside0.mk hr1
  have HC1 := Aside0.mk hc1
  clear hr1 hc1
  have HB := Aside0.mk (Below.refl w.heap.size w)
  have H : ((impl_IsScore.f k l0).bind fun t233 => (if t233 = true then ((impl_IsScore.f k l1).bind fun t234 => (impl_JoinScores.j0 k l0 l1 (!t234))) else (impl_JoinScores.j0 k l0 l1 true))) = some (r1, r2) := h
  clear h
  have HC3 := Aside0.mk H
  clear H
  go_enter Try.func51, Try.ntmps51
  go_upto_region 1 with (fail)
  go_cut [13] (fun v13 wc => ∃ (kq : Nat) (x13_2 : Bool), v13 = .bool x13_2 ∧ Aside0 (impl_JoinScores.j0 kq l0 l1 x13_2 = some (r1, r2)) ∧ Aside0 (kq ≤ k) ∧ Aside0 (Below w.heap.size w wc))
  case first =>
    have H := HC3.out
    clear HC3
    replace H := Option.bind_eq_some_iff.mp H
    obtain ⟨t233, A40, H⟩ := H
    replace H : (if t233 = true then ((impl_IsScore.f k l1).bind fun t234 => (impl_JoinScores.j0 k l0 l1 (!t234))) else (impl_JoinScores.j0 k l0 l1 true)) = some (r1, r2) := H
    have A4 := Aside0.mk A40
    clear A40
    by_cases c5 : t233 = true
    · subst c5
      have H1 : ((impl_IsScore.f k l1).bind fun t234 => (impl_JoinScores.j0 k l0 l1 (!t234))) = some (r1, r2) := by rw [if_pos rfl] at H; exact H
      clear H
      have H := H1
      clear H1
      replace H := Option.bind_eq_some_iff.mp H
      obtain ⟨t234, A60, H⟩ := H
      replace H : (impl_JoinScores.j0 k l0 l1 (!t234)) = some (r1, r2) := H
      have A6 := Aside0.mk A60
      clear A60
      have H' := Aside0.mk H
      clear H
      go_wp2_with (first | ((with_reducible refine gate_callee (f := 72) rfl ?_); refine goesL_ (some 7) rfl rfl Try.func72 (by kernel_rfl) rfl #[.slice A0 l0.length c0] rfl (by (try simp only [List.map_toArray, List.map_cons, List.map_nil]); first | done | rfl | (simp only [List.length_drop, List.length_take]; rfl)) ?_; (with_reducible refine (impl_IsScore.calls k _ _ l0 true _ ?side1 ?side2 A4.out).mono ?_); (case side1 => repeat (first | exact (Kd.C_below HR0.out HB.out) | (with_reducible refine Kd.C_alloc ?_ _) | (with_reducible refine Kd.C_drewN ?_ _) | (with_reducible refine Kd.C_drew ?_))); (case side2 => exact HC0.out); rintro e w7 ⟨rfl, hb⟩; refine ⟨_, rfl, ?_⟩; have n0_ := Aside0.mk (below_step (by repeat (first | (with_reducible first | exact HB.out | apply below_alloc | apply pw_below_drewN | apply below_drew1) | exact HB.out)) hb); clear HB; have HB := n0_; clear n0_; (try clear hb); (try clear hb2); (try clear hk); (try clear hi)) | (go_at_call 72; (with_reducible refine (impl_IsScore.calls k _ _ l1 t234 _ ?side1 ?side2 A6.out).mono ?_); (case side1 => repeat (first | exact (Kd.C_below HR1.out HB.out) | (with_reducible refine Kd.C_alloc ?_ _) | (with_reducible refine Kd.C_drewN ?_ _) | (with_reducible refine Kd.C_drew ?_))); (case side2 => exact HC1.out); rintro e w8 ⟨rfl, hb⟩; have n0_ := Aside0.mk (below_step (by repeat (first | (with_reducible first | exact HB.out | apply below_alloc | apply pw_below_drewN | apply below_drew1) | exact HB.out)) hb); clear HB; have HB := n0_; clear n0_; (try clear hb); (try clear hb2); (try clear hk); (try clear hi)))
      go_meet
      case rel => exact ⟨_, (!t234), (by first | rfl | (simp; done) | (simp [*]; done)), H', ⟨by first | omega | exact Nat.le_refl _⟩, ⟨by repeat (first | (with_reducible first | exact HB.out | apply below_alloc | apply pw_below_drewN | apply below_drew1) | exact HB.out)⟩⟩
    · replace c5 := Bool.eq_false_iff.mpr c5
      subst c5
      have H1 : (impl_JoinScores.j0 k l0 l1 true) = some (r1, r2) := by rw [if_neg (show ¬ (false = true) by decide)] at H; exact H
      clear H
      have H := H1
      clear H1
      have H' := Aside0.mk H
      clear H
      go_wp2_with (first | ((with_reducible refine gate_callee (f := 72) rfl ?_); refine goesL_ (some 7) rfl rfl Try.func72 (by kernel_rfl) rfl #[.slice A0 l0.length c0] rfl (by (try simp only [List.map_toArray, List.map_cons, List.map_nil]); first | done | rfl | (simp only [List.length_drop, List.length_take]; rfl)) ?_; (with_reducible refine (impl_IsScore.calls k _ _ l0 false _ ?side1 ?side2 A4.out).mono ?_); (case side1 => repeat (first | exact (Kd.C_below HR0.out HB.out) | (with_reducible refine Kd.C_alloc ?_ _) | (with_reducible refine Kd.C_drewN ?_ _) | (with_reducible refine Kd.C_drew ?_))); (case side2 => exact HC0.out); rintro e w9 ⟨rfl, hb⟩; refine ⟨_, rfl, ?_⟩; have n0_ := Aside0.mk (below_step (by repeat (first | (with_reducible first | exact HB.out | apply below_alloc | apply pw_below_drewN | apply below_drew1) | exact HB.out)) hb); clear HB; have HB := n0_; clear n0_; (try clear hb); (try clear hb2); (try clear hk); (try clear hi)))
      go_meet
      case rel => exact ⟨_, (true), (by first | rfl | (simp; done) | (simp [*]; done)), H', ⟨by first | omega | exact Nat.le_refl _⟩, ⟨by repeat (first | (with_reducible first | exact HB.out | apply below_alloc | apply pw_below_drewN | apply below_drew1) | exact HB.out)⟩⟩
  case rest =>
    clear HC3
    try clear c1
    try clear p2
    try clear c5
    try clear c7
    obtain ⟨kq, x13_2, rfl, HA, HJ2, HB⟩ := hcut
    cases kq with
    | zero => exact absurd HA.out (by simp [impl_JoinScores.j0])
    | succ kj2 =>
      have H := HA.out
      clear HA
      simp only [impl_JoinScores.j0] at H
      by_cases c10 : x13_2 = true
      · subst c10
        have H1 : (some (([] : List (S92)), false)) = some (r1, r2) := by rw [if_pos rfl] at H; exact H
        clear H
        have H := H1
        clear H1
        simp only [Option.some.injEq, Prod.mk.injEq] at H
        obtain ⟨rfl, rfl⟩ := H
        go_wp2
        go_ret2
        exact ⟨_, by first | rfl | (simp [errW_none, errW_some] <;> rfl) | (simp [*, errW_none, errW_some] <;> rfl), by first | exact Kd.R_nil _ _ _ _ _ | exact Kd.N_nil _ _ _ _ _ | exact Kd.V_nil _ _ _ _ _ | exact Kd.Q_nil _ _ _ _ _ | exact Kd.S_nil _ _ _ _ _, by repeat (first | (with_reducible first | exact HB.out | apply below_alloc | apply pw_below_drewN | apply below_drew1) | exact HB.out)⟩
      · replace c10 := Bool.eq_false_iff.mpr c10
        subst c10
        have H1 : ((clone_Note.f l0).bind fun t235 => (if t235.length + l1.length < 5864062014805 then ((impl_sortedNotes.f (t235 ++ l1)).bind fun t241 => ((impl_scoreOf.f kj2 t241).bind fun bt244 => (some (bt244.1, bt244.2)))) else (none))) = some (r1, r2) := by rw [if_neg (show ¬ (false = true) by decide)] at H; exact H
        clear H
        have H := H1
        clear H1
        replace H := Option.bind_eq_some_iff.mp H
        obtain ⟨t235, A110, H⟩ := H
        replace H : (if t235.length + l1.length < 5864062014805 then ((impl_sortedNotes.f (t235 ++ l1)).bind fun t241 => ((impl_scoreOf.f kj2 t241).bind fun bt244 => (some (bt244.1, bt244.2)))) else (none)) = some (r1, r2) := H
        have A11 := Aside0.mk A110
        clear A110
        by_cases c12 : t235.length + l1.length < 5864062014805
        · rw [if_pos c12] at H
          have LMc12 := Aside0.mk c12
          clear c12
          obtain ⟨y238, hy238⟩ : ∃ y_ : List (S92), y_ = (t235 ++ l1) := ⟨_, rfl⟩
          replace H : ((impl_sortedNotes.f y238).bind fun t241 => ((impl_scoreOf.f kj2 t241).bind fun bt244 => (some (bt244.1, bt244.2)))) = some (r1, r2) := by first | (rw [hy238]; with_reducible exact H) | (have H2_ := (Option.bind_some _ _).symm.trans H; rw [hy238]; with_reducible exact H2_) | (have H2_ := (Option.bind_some _ _).symm.trans H; with_reducible exact H2_) | with_reducible exact H | (rw [hy238]; exact H) | exact H
          have Ny238 := Aside0.mk hy238
          clear hy238
          replace H := Option.bind_eq_some_iff.mp H
          obtain ⟨t241, A130, H⟩ := H
          replace H : ((impl_scoreOf.f kj2 t241).bind fun bt244 => (some (bt244.1, bt244.2))) = some (r1, r2) := H
          have A13 := Aside0.mk A130
          clear A130
          replace H := Option.bind_eq_some_iff.mp H
          obtain ⟨⟨t244, t247⟩, A140, H⟩ := H
          replace H : (some (t244, t247)) = some (r1, r2) := H
          have A14 := Aside0.mk A140
          clear A140
          simp only [Option.some.injEq, Prod.mk.injEq] at H
          obtain ⟨rfl, rfl⟩ := H
          go_wp2_with (first | ((with_reducible refine gate_callee (f := 73) rfl ?_); refine goesL_ (some 15) rfl rfl Try.func73 (by kernel_rfl) rfl #[.slice A0 l0.length c0] rfl (by (try simp only [List.map_toArray, List.map_cons, List.map_nil]); first | done | rfl | (simp only [List.length_drop, List.length_take]; rfl)) ?_; (with_reducible refine (clone_Note.calls _ _ l0 t235 _ ?side1 ?side2 A11.out).mono ?_); (case side1 => repeat (first | exact (Kd.C_below HR0.out HB.out) | (with_reducible refine Kd.C_alloc ?_ _) | (with_reducible refine Kd.C_drewN ?_ _) | (with_reducible refine Kd.C_drew ?_))); (case side2 => exact HC0.out); rintro e w15 ⟨v236, rfl, ho0, hb⟩; refine ⟨_, rfl, ?_⟩; have n0_ := Aside0.mk (Kd.R_lower ho0 (below_size (by repeat (first | (with_reducible first | exact HB.out | apply below_alloc | apply pw_below_drewN | apply below_drew1) | exact HB.out)))); have n1_ := Aside0.mk (below_step (by repeat (first | (with_reducible first | exact HB.out | apply below_alloc | apply pw_below_drewN | apply below_drew1) | exact HB.out)) hb); clear HB; have HO237 := n0_; have HB := n1_; clear n0_ n1_; (try clear hb); (try clear hb2); (try clear hk); (try clear hi); (try clear ho0)) | ((with_reducible refine gate_builtin (b := .append) (xs := #[.tmp 15, .tmp 16]) rfl ?_); at_builtin; refine Kd.R_append_rows k92 (w0 := w) w.heap.size rfl (.tmp 15) (.tmp 16) 24 92 (.agg #[(.int .i64 0), (.int .i64 0), (.int .i64 0)]) 24 rfl Try.underlying24 info92 rfl (by decide) (by omega) v236 t235 l1 _ _ _ (fun _ => True) (fun _ => False) rfl rfl ?aO ?aR (fun _ _ h => h) (fun _ h => h.elim) ?aF ?aB ?aS ?aL ?_; (case aR => repeat (first | exact (Kd.C_below HR1.out HB.out) | (with_reducible refine Kd.C_alloc ?_ _) | (with_reducible refine Kd.C_drewN ?_ _) | (with_reducible refine Kd.C_drew ?_))); (case aB => exact (by repeat (first | (with_reducible first | exact HB.out | apply below_alloc | apply pw_below_drewN | apply below_drew1) | exact HB.out))); (case aF => exact (fun _ _ => trivial)); (case aO => exact (by (with_reducible repeat (first | apply Kd.R_alloc | apply Kd.R_drewN | apply Kd.R_drew)); exact HO237.out)); (case aS => exact (below_size (by repeat (first | (with_reducible first | exact HB.out | apply below_alloc | apply pw_below_drewN | apply below_drew1) | exact HB.out)))); (case aL => have := LMc12.out; omega); intro v239 w16 ho hb hg hat; rw [← Ny238.out] at ho; have n0_ := Aside0.mk (hb); have n1_ := Aside0.mk (ho); clear HB; clear HO237; have HB := n0_; have HO240 := n1_; clear n0_ n1_; clear ho hb hg hat; obtain ⟨Ao17, co17, eo17⟩ := Kd.R_slice HO240.out; subst eo17) | ((with_reducible refine gate_callee (f := 110) rfl ?_); refine goesL_ (some 18) rfl rfl Try.func110 (by kernel_rfl) rfl #[.slice Ao17 y238.length co17] rfl (by (try simp only [List.map_toArray, List.map_cons, List.map_nil]); first | done | rfl | (simp only [List.length_drop, List.length_take]; rfl)) ?_; (with_reducible refine (impl_sortedNotes.calls _ _ y238 t241 _ ?side1 ?side2 A13.out).mono ?_); (case side1 => repeat (first | exact (Kd.R_reads' HO240.out).2.2 | (with_reducible refine Kd.C_alloc ?_ _) | (with_reducible refine Kd.C_drewN ?_ _) | (with_reducible refine Kd.C_drew ?_))); (case side2 => exact (Kd.R_reads' HO240.out).2.1); rintro e w18 ⟨v242, rfl, ho0, hb⟩; refine ⟨_, rfl, ?_⟩; have n0_ := Aside0.mk (Kd.R_elder' (by (with_reducible repeat (first | apply Kd.R_alloc | apply Kd.R_drewN | apply Kd.R_drew)); exact HO240.out) (Kd.R_base ho0) hb); have n1_ := Aside0.mk (Kd.R_lower (Kd.R_new' ho0 (Kd.R_lt (by (with_reducible repeat (first | apply Kd.R_alloc | apply Kd.R_drewN | apply Kd.R_drew)); exact HO240.out))) (below_size (by repeat (first | (with_reducible first | exact HB.out | apply below_alloc | apply pw_below_drewN | apply below_drew1) | exact HB.out)))); have n2_ := Aside0.mk (below_step (by repeat (first | (with_reducible first | exact HB.out | apply below_alloc | apply pw_below_drewN | apply below_drew1) | exact HB.out)) hb); clear HO240; clear HB; have HO240 := n0_; have HO243 := n1_; have HB := n2_; clear n0_ n1_ n2_; (try clear hb); (try clear hb2); (try clear hk); (try clear hi); (try clear ho0); obtain ⟨Ao19, co19, eo19⟩ := Kd.R_slice HO243.out; subst eo19) | ((with_reducible refine gate_callee (f := 74) rfl ?_); refine goesL_ (some 19) rfl rfl Try.func74 (by kernel_rfl) rfl #[.slice Ao19 t241.length co19] rfl (by (try simp only [List.map_toArray, List.map_cons, List.map_nil]); first | done | rfl | (simp only [List.length_drop, List.length_take]; rfl)) ?_; (with_reducible refine (impl_scoreOf.calls kj2 (fun k_ => some k_ = (.slice Ao19 t241.length co19 : Value).ownBlock) (.slice Ao19 t241.length co19) t241 t244 t247 w _ ?side1 ?side2 A14.out).mono ?_); (case side1 => repeat (first | (with_reducible first | exact HB.out | apply below_alloc | apply pw_below_drewN | apply below_drew1) | exact HB.out)); (case side2 => exact Kd.R_tight rfl HO243.out); rintro e w20 ⟨v245, rfl, ho0, hb, hkp⟩; refine ⟨_, rfl, ?_⟩; have n0_ := Aside0.mk (Kd.R_mono (ok' := fun k_ => some k_ ≠ (v245 : Value).ownBlock) (Kd.R_keptB (HO240.out) hkp (fun k_ hk_ hs_ => (hk_.2) hs_)) (fun k_ hk_ => fun e_ => Or.elim (ho0.1 k_ e_.symm) (fun hs_ => hk_.2.1 hs_) (fun hn_ => Nat.not_le.2 hk_.2.2 hn_))); have n1_ := Aside0.mk (Kd.R_mono (ok' := fun k_ => some k_ ≠ (.slice Ao17 y238.length co17 : Value).ownBlock) ho0 (fun k_ hk_ => Or.elim hk_ (fun hs_ => fun e_ => (((HO240.out).1 k_ e_.symm).2) hs_) (fun hn_ => (Kd.fresh' (Kd.R_lt (by (with_reducible repeat (first | apply Kd.R_alloc | apply Kd.R_drewN | apply Kd.R_drew)); exact HO240.out)) k_ hn_)))); have n2_ := Aside0.mk (hb); clear HO240; clear HB; clear HO243; have HO240 := n0_; have HO246 := n1_; have HB := n2_; clear n0_ n1_ n2_; (try clear hb); (try clear hkp); (try clear ho0)))
          go_ret2
          exact ⟨_, by first | rfl | (simp [errW_none, errW_some] <;> rfl) | (simp [*, errW_none, errW_some] <;> rfl), by (with_reducible repeat (first | apply Kd.R_alloc | apply Kd.R_drewN | apply Kd.R_drew)); exact Kd.R_mono HO246.out (fun _ hk => trivial), by repeat (first | (with_reducible first | exact HB.out | apply below_alloc | apply pw_below_drewN | apply below_drew1) | exact HB.out)⟩
        · rw [if_neg c12] at H
          exact absurd H (by simp)

end Go.Proofs.Ytjgpngeifgcidaa.PFnExactJoinScores
