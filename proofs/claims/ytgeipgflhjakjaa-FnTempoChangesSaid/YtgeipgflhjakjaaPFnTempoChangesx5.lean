-- by wip/xprint.py, over the kit's printer
import Derived.Test.YtgeipgflhjakjaaPFnTempoChangesx0
import Derived.Test.YtgeipgflhjakjaaPFnTempoChangesx4
namespace Go.Proofs.Ytgeipgflhjakjaa.PFnTempoChanges
open Go.RowKit Go.Proofs.YtgeipgflhjakjaaW.PrintWords Go.Proofs.YtgeipgflhjakjaaW.PrintLast Go.Proofs.YtgeipgflhjakjaaW.PrintMore
attribute [local go_sem] max2_int min2_int max_two min_two max_three min_three max_four min_four   -- for this text's walks alone
set_option linter.unusedVariables false
set_option linter.unusedSimpArgs false
private abbrev M_ {p : Prop} (h : p) : Aside0 p := Aside0.mk h
private abbrev la_ := @List.setIfInBounds_toArray
private abbrev lb_ := @List.set_cons_zero
private abbrev lc_ := @List.set_cons_succ
private abbrev bn_ := @pw_below_drewN
private abbrev b1_ := @below_drew1
private abbrev ba_ := @below_alloc
private abbrev bs_ := @below_set
private abbrev kn_ := @blk_drewN
private abbrev ka_ := @blk_alloc
private abbrev kd_ := @blk_drew
private abbrev rn_ := @Kd.R_drewN
private abbrev ra_ := @Kd.R_alloc
private abbrev rd_ := @Kd.R_drew
private abbrev rb_ := @Kd.R_below
private abbrev rm_ := @Kd.R_mono
private abbrev rt_ := @Kd.R_types
private abbrev T_ : Bool := true
private abbrev F_ : Bool := false
private theorem bS_ {w W w2 : World} (k : Below W.heap.size W w2) (h : Below w.heap.size w W := by repeat (first | (with_reducible first | exact HB.out | apply ba_ | apply bn_ | apply b1_) | exact HB.out)) : Below w.heap.size w w2 := below_step h k
private theorem bZ_ {w W : World} (h : Below w.heap.size w W := by repeat (first | (with_reducible first | exact HB.out | apply ba_ | apply bn_ | apply b1_) | exact HB.out)) : w.heap.size ≤ W.heap.size := below_size h
private theorem bA_ {w W : World} {n : Nat} (h : Below n w W := by repeat (first | (with_reducible first | exact HB.out | apply ba_ | apply bn_ | apply b1_) | exact HB.out)) : Aside0 (Below n w W) := ⟨h⟩
private theorem eW_ {p : Prop} {w W : World} {n : Nat} (h1 : p := by first | rfl | (simp [errW_none, errW_some] <;> rfl) | (simp [*, errW_none, errW_some] <;> rfl)) (h2 : Below n w W := by repeat (first | (with_reducible first | exact HB.out | apply ba_ | apply bn_ | apply b1_) | exact HB.out)) : p ∧ Below n w W := ⟨h1, h2⟩
private theorem dT_ {p : Prop} [Decidable p] (h : decide p = true := by first | (with_reducible assumption) | assumption) : p := of_decide_eq_true h
private theorem pR_ {P : Program} {ops : Array Oper} {Q : Exit → Act → World → Prop} {md : Region.Mode} {S : World → Prop} {ds : List Nat} {i : Nat} {N : Option Tmp} {oi : Oper} {v : Value} {fuel : Nat} {l : Array Bool} {a : Act} {w : World} (l' : Array Bool) {a' : Act} (h : wpAnyLast P md ops Q S ds fuel l' a' w) (hi : ops[i]? = some oi := by exact rfl) (hN : oi.dst = N := by exact rfl) (hc : anyB md ops l l' i = true := by exact any_of HT_.out (by kernel_rfl)) (hQ : ∀ c a w, Q (.panic c) (a.put oi.dst v) w → Q (.panic c) a w := by exact fun _ _ _ h => h) (hw : Region.wanted oi (yielded ops a.tmps) = true := by rfl) (hv : ∀ w, (execOp a.eval oi).run P w = .ok (.value v) w := by intro w'; go_simp; with_reducible rfl) (ha : a.put N v = a' := by simp only [Act.put, la_, lb_, lc_, i64_w, i32_w]; rfl) : wpAnyLast P md ops Q S ds (fuel + 1) l a w := pure_ l' hi hN hc hQ (Or.inl ⟨hw, hv⟩) ha h
private theorem pU_ {P : Program} {ops : Array Oper} {Q : Exit → Act → World → Prop} {md : Region.Mode} {S : World → Prop} {ds : List Nat} {i : Nat} {N : Option Tmp} {oi : Oper} {fuel : Nat} {l : Array Bool} {a : Act} {w : World} (l' : Array Bool) {a' : Act} (h : wpAnyLast P md ops Q S ds fuel l' a' w) (hi : ops[i]? = some oi := by exact rfl) (hN : oi.dst = N := by exact rfl) (hc : anyB md ops l l' i = true := by exact any_of HT_.out (by kernel_rfl)) (hQ : ∀ c a w, Q (.panic c) (a.put oi.dst undef) w → Q (.panic c) a w := by exact fun _ _ _ h => h) (hw : Region.wanted oi (yielded ops a.tmps) = false := by rfl) (ha : a.put N undef = a' := by simp only [Act.put, la_, lb_, lc_, i64_w, i32_w]; rfl) : wpAnyLast P md ops Q S ds (fuel + 1) l a w := pure_ l' hi hN hc hQ (Or.inr ⟨hw, rfl⟩) ha h

mutual
def impl_AreTempos.j0 : Nat → List (S41) → Bool → Option (Bool)
 | 0, _, _ => none
 | k + 1, x0, x19 => if x19 = true then (some false) else (impl_AreTempos.l0 k x0 x0 (x0.length : Int) 0)
def impl_AreTempos.l0 : Nat → List (S41) → List (S41) → Int → Int → Option (Bool)
 | 0, _, _, _, _ => none
 | k + 1, x0, x20, x21, x22 => if x22 < x21 then (if 0 ≤ x22 then (if x22 < (x20.length : Int) then ((impl_isChange.f ((rd_T41 x20 x22).f0) ((rd_T41 x20 x22).f1)).bind fun t202 => (if t202 = true then (if x22 > 0 then (if 0 ≤ (wrap64 (x22 - 1)) then (if (wrap64 (x22 - 1)) < (x0.length : Int) then (if ((rd_T41 x20 x22).f0) ≤ ((rd_T41 x0 (wrap64 (x22 - 1))).f0) then (some false) else (impl_AreTempos.l0 k x0 x20 x21 (wrap64 (x22 + 1)))) else (none)) else (none)) else (impl_AreTempos.l0 k x0 x20 x21 (wrap64 (x22 + 1)))) else (some false))) else (none)) else (none)) else (some true)
end
def impl_AreTempos.f (k : Nat) (l0 : List (S41)) : Option (Bool) := if (l0.length : Int) < 1 then (impl_AreTempos.j0 k l0 true) else (if (l0.length : Int) > 20 then (impl_AreTempos.j0 k l0 true) else (if 0 < (l0.length : Int) then (impl_AreTempos.j0 k l0 (((rd_T41 l0 0).f0) != 0)) else (none)))
theorem impl_AreTempos.mono_l : ∀ k, (∀ y0 y1, LeO (impl_AreTempos.j0 k y0 y1) (impl_AreTempos.j0 (k + 1) y0 y1)) ∧ (∀ y0 y1 y2 y3, LeO (impl_AreTempos.l0 k y0 y1 y2 y3) (impl_AreTempos.l0 (k + 1) y0 y1 y2 y3))
 | 0 => ⟨fun _ _ r h => by simp [impl_AreTempos.j0] at h, fun _ _ _ _ r h => by simp [impl_AreTempos.l0] at h⟩
 | k + 1 => by
  obtain ⟨ih0, ih1⟩ := impl_AreTempos.mono_l k
  refine ⟨?_, ?_⟩
  ·intro y0 y1
   unfold impl_AreTempos.j0
   repeat' first
   | (with_reducible exact ih0 _ _)
   | (with_reducible exact ih1 _ _ _ _)
   | (with_reducible exact LeO.refl _)
   | (with_reducible exact LeO.none _)
   | (with_reducible refine LeO.ite ?_ ?_)
   | (with_reducible refine LeO.bind ?_ (fun _ => ?_))
   | exact ih0 _ _
   | exact ih1 _ _ _ _
   | exact LeO.none _
   | refine LeO.ite ?_ ?_
   | refine LeO.bind ?_ (fun _ => ?_)
  ·intro y0 y1 y2 y3
   unfold impl_AreTempos.l0
   repeat' first
   | (with_reducible exact ih0 _ _)
   | (with_reducible exact ih1 _ _ _ _)
   | (with_reducible exact LeO.refl _)
   | (with_reducible exact LeO.none _)
   | (with_reducible refine LeO.ite ?_ ?_)
   | (with_reducible refine LeO.bind ?_ (fun _ => ?_))
   | exact ih0 _ _
   | exact ih1 _ _ _ _
   | exact LeO.none _
   | refine LeO.ite ?_ ?_
   | refine LeO.bind ?_ (fun _ => ?_)
theorem impl_AreTempos.mono : ∀ a0 k, LeO (impl_AreTempos.f k a0) (impl_AreTempos.f (k + 1) a0) := by
 intro a0 k
 obtain ⟨ih0, ih1⟩ := impl_AreTempos.mono_l k
 unfold impl_AreTempos.f
 repeat' first
   | (with_reducible exact ih0 _ _)
   | (with_reducible exact ih1 _ _ _ _)
   | (with_reducible exact LeO.refl _)
   | (with_reducible exact LeO.none _)
   | (with_reducible refine LeO.ite ?_ ?_)
   | (with_reducible refine LeO.bind ?_ (fun _ => ?_))
   | exact ih0 _ _
   | exact ih1 _ _ _ _
   | exact LeO.none _
   | refine LeO.ite ?_ ?_
   | refine LeO.bind ?_ (fun _ => ?_)
def impl_AreTempos.T6 : Bool × List (List Nat × List Nat) := (true, [([], []), ([0], [0]), ([1], [1]), ([2, 1], [2]), ([3], [3]), ([4, 3], [3, 4]), ([5, 3, 3], [3, 5]), ([6], [6]), ([7, 6], [6, 7]), ([6], [6]), ([6], [6]), ([10, 6], [6, 10]), ([9, 11, 6], [6, 9, 11]), ([12, 6], [6, 12]), ([13, 6], [6, 13]), ([8, 14, 6], [6, 8, 14]), ([6, 15, 3], [3, 6, 15]), ([3, 16], [3, 16])])
def impl_AreTempos.B6 : List Nat := [0, 1, 3, 7, 15, 31, 63, 127, 255, 127, 127, 1151, 3711, 7807, 15999, 32767, 65535, 131071]
theorem impl_AreTempos.tab6 : rtab .any (opsOf Try.f27 6) = impl_AreTempos.T6 := by kernel_rfl
theorem impl_AreTempos.bits6 : waitsOk impl_AreTempos.T6.2 impl_AreTempos.B6 = true := by kernel_rfl
set_option maxHeartbeats 8000000 in
set_option maxRecDepth 100000 in
theorem impl_AreTempos.calls (k : Nat) (A0 : Option Addr) (c0 : Nat) (l0 : List (S41)) (r : Bool) (w : World) (hr0 : Kd.C k41 w A0 l0.length l0) (hc0 : l0.length ≤ c0) (h : impl_AreTempos.f k l0 = some r) :
  Calls Try.prog 27 #[.slice A0 l0.length c0] w fun e w' => e = .returned (.bool r) ∧ Below w.heap.size w w' := by
 have hu41 := Try.underlying41
 have HR0 := M_ hr0
 have HC0 := M_ hc0
 clear hr0 hc0
 have HB := M_ (Below.refl w.heap.size w)
 have H : (if (l0.length : Int) < 1 then (impl_AreTempos.j0 k l0 true) else (if (l0.length : Int) > 20 then (impl_AreTempos.j0 k l0 true) else (if 0 < (l0.length : Int) then (impl_AreTempos.j0 k l0 (((rd_T41 l0 0).f0) != 0)) else (none)))) = some r := h
 clear h
 have HC2 := M_ H
 clear H
 go_enter Try.func27, Try.ntmps27
 go_upto_region 1 with (fail)
 go_cut [19] (fun v19 wc => ∃ (kq : Nat) (x19_1 : Bool), v19 = .bool x19_1 ∧ Aside0 (impl_AreTempos.j0 kq l0 x19_1 = some r) ∧ Aside0 (kq ≤ k) ∧ Aside0 (Below w.heap.size w wc))
 case first =>
  have H := HC2.out
  clear HC2
  by_cases c3 : (l0.length : Int) < 1
  ·rw [if_pos c3] at H
   have c3b0 : decide ((l0.length : Int) < 1) = true := decide_eq_true c3
   have c3b1 : decide (l0.length < 1) = true := decide_eq_true (by omega)
   clear c3
   (first | rw [c3b0] | (simp only [i64_w, i32_w]; rw [c3b0]) | skip)
   have H' := M_ H
   clear H
   go_wp2
   go_meet
   case rel => exact ⟨_, (true), (by first | rfl | (simp; done) | (simp [*]; done)), H', ⟨by first | omega | exact Nat.le_refl _⟩, bA_⟩
  ·rw [if_neg c3] at H
   have c3b0 : decide ((l0.length : Int) < 1) = false := decide_eq_false c3
   have c3b1 : decide (l0.length < 1) = false := decide_eq_false (by omega)
   clear c3
   (first | rw [c3b0] | (simp only [i64_w, i32_w]; rw [c3b0]) | skip)
   by_cases c4 : (l0.length : Int) > 20
   ·rw [if_pos c4] at H
    have c4b0 : decide (20 < (l0.length : Int)) = true := decide_eq_true c4
    have c4b1 : decide (20 < l0.length) = true := decide_eq_true (by omega)
    clear c4
    have H' := M_ H
    clear H
    go_wp2
    go_meet
    case rel => exact ⟨_, (true), (by first | rfl | (simp; done) | (simp [*]; done)), H', ⟨by first | omega | exact Nat.le_refl _⟩, bA_⟩
   ·rw [if_neg c4] at H
    have c4b0 : decide (20 < (l0.length : Int)) = false := decide_eq_false c4
    have c4b1 : decide (20 < l0.length) = false := decide_eq_false (by omega)
    clear c4
    by_cases c5 : 0 < (l0.length : Int)
    ·rw [if_pos c5] at H
     have c5b0 : decide (0 < (l0.length : Int)) = true := decide_eq_true c5
     have c5b1 : decide (0 < l0.length) = true := decide_eq_true (by omega)
     clear c5
     have H' := M_ H
     clear H
     have p199 : 0 ≤ (0 : Int) := (by omega)
     have q199 : 0 < (l0.length : Int) := dT_
     obtain ⟨ad199, e199, hx199_0, hx199_1⟩ := at_T41 HR0.out 0 p199 q199
     cases e199
     have qi199 : (0 < l0.length) = True := eq_true (by omega)
     (try rw [show ((0 : Int)).toNat = 0 from rfl] at hx199_0)
     (try rw [show 0 * 2 = 0 from rfl] at hx199_0)
     (try rw [Addr.add_zero'] at hx199_0)
     (try rw [show ((0 : Int)).toNat = 0 from rfl] at hx199_1)
     (try rw [show 0 * 2 = 0 from rfl] at hx199_1)
     (try rw [Addr.add_zero'] at hx199_1)
     replace hx199_0 := (HB.out.cell (World.block_lt_of_cell? w _ hx199_0)).trans hx199_0
     replace hx199_1 := (HB.out.cell (World.block_lt_of_cell? w _ hx199_1)).trans hx199_1
     replace p199 := eq_true p199
     replace q199 := eq_true q199
     go_wp2
     go_meet
     case rel => exact ⟨_, ((((rd_T41 l0 0).f0) != 0)), (by first | rfl | (simp; done) | (simp [*]; done)), H', ⟨by first | omega | exact Nat.le_refl _⟩, bA_⟩
    ·rw [if_neg c5] at H
     exact absurd H (by simp)
 case rest =>
  clear HC2
  try clear p1
  try clear q1
  try clear hx1
  try clear qi1
  try clear c2
  try clear p2
  try clear c3
  try clear c3b0
  try clear c3b1
  try clear c4
  try clear c4b0
  try clear c4b1
  try clear c5
  try clear c5b0
  try clear c5b1
  try clear hx199_0
  try clear hx199_1
  try clear p199
  try clear q199
  obtain ⟨kq, x19_1, rfl, HA, HJ1, HB⟩ := hcut
  cases kq with
  | zero => exact absurd HA.out (by simp [impl_AreTempos.j0])
  | succ kj1 =>
   have H := HA.out
   clear HA
   simp only [impl_AreTempos.j0] at H
   by_cases c6 : x19_1 = true
   ·subst c6
    have H1 : (some false) = some r := by rw [if_pos rfl] at H; exact H
    clear H
    have H := H1
    clear H1
    obtain rfl := Option.some.inj H
    go_wp2
    go_ret
    exact eW_
   ·replace c6 := Bool.eq_false_iff.mpr c6
    subst c6
    have H1 : (impl_AreTempos.l0 kj1 l0 l0 (l0.length : Int) 0) = some r := by rw [if_neg (show ¬ (false = true) by decide)] at H; exact H
    clear H
    have H := H1
    clear H1
    have H' := M_ H
    clear H
    go_wp2
    go_loopg [22] kj1 (fun kq v22 w' => ∃ (x22_2 : Int), v22 = .int .i64 x22_2 ∧ Aside0 (impl_AreTempos.l0 kq l0 l0 (l0.length : Int) x22_2 = some r) ∧ Aside0 (kq ≤ kj1) ∧ Aside0 (Below w.heap.size w w'))
    case atStart => exact ⟨(0), (by first | rfl | (simp; done) | (simp [*]; done)), H', ⟨Nat.le_refl _⟩, bA_⟩
    case round =>
     clear H'
     try clear p1
     try clear q1
     try clear hx1
     try clear qi1
     try clear c2
     try clear p2
     try clear c3
     try clear c3b0
     try clear c3b1
     try clear c4
     try clear c4b0
     try clear c4b1
     try clear c5
     try clear c5b0
     try clear c5b1
     try clear c6
     try clear hx199_0
     try clear hx199_1
     try clear p1
     try clear p199
     try clear p2
     try clear q1
     try clear q199
     obtain ⟨x22_2, rfl, HA, HK2, HB⟩ := hrel
     cases gk with
     | zero => exact absurd HA.out (by simp [impl_AreTempos.l0])
     | succ k2 =>
      have H := HA.out
      clear HA
      simp only [impl_AreTempos.l0] at H
      by_cases c7 : x22_2 < (l0.length : Int)
      ·rw [if_pos c7] at H
       have c7b0 : decide (x22_2 < (l0.length : Int)) = true := decide_eq_true c7
       clear c7
       by_cases c8 : 0 ≤ x22_2
       ·rw [if_pos c8] at H
        have c8b0 : decide (0 ≤ x22_2) = true := decide_eq_true c8
        clear c8
        by_cases c9 : x22_2 < (l0.length : Int)
        ·rw [if_pos c9] at H
         have c9b0 : decide (x22_2 < (l0.length : Int)) = true := decide_eq_true c9
         clear c9
         replace H := Option.bind_eq_some_iff.mp H
         obtain ⟨t202, A100, H⟩ := H
         try dsimp only at H
         have A10 := M_ A100
         clear A100
         by_cases c11 : t202 = true
         ·subst c11
          have H1 : (if x22_2 > 0 then (if 0 ≤ (wrap64 (x22_2 - 1)) then (if (wrap64 (x22_2 - 1)) < (l0.length : Int) then (if ((rd_T41 l0 x22_2).f0) ≤ ((rd_T41 l0 (wrap64 (x22_2 - 1))).f0) then (some false) else (impl_AreTempos.l0 k2 l0 l0 (l0.length : Int) (wrap64 (x22_2 + 1)))) else (none)) else (none)) else (impl_AreTempos.l0 k2 l0 l0 (l0.length : Int) (wrap64 (x22_2 + 1)))) = some r := by rw [if_pos rfl] at H; exact H
          clear H
          have H := H1
          clear H1
          by_cases c12 : x22_2 > 0
          ·rw [if_pos c12] at H
           have c12b0 : decide (0 < x22_2) = true := decide_eq_true c12
           clear c12
           obtain ⟨ji13, hji13⟩ : ∃ j_ : Int, (wrap64 (x22_2 - 1)) = j_ := ⟨_, rfl⟩
           replace H : (if 0 ≤ (ji13) then (if (ji13) < (l0.length : Int) then (if ((rd_T41 l0 x22_2).f0) ≤ ((rd_T41 l0 (ji13)).f0) then (some false) else (impl_AreTempos.l0 k2 l0 l0 (l0.length : Int) (wrap64 (x22_2 + 1)))) else (none)) else (none)) = some r := by first | (rw [hji13] at H; exact H) | (simp only [hji13] at H ⊢; exact H)
           (try rw [hji13] at A10)
           have hji13w : (IntKind.i64.wrap (x22_2 - 1)) = ji13 := (i64_w _).trans hji13
           by_cases c14 : 0 ≤ (ji13)
           ·rw [if_pos c14] at H
            have c14b0 : decide (0 ≤ (ji13)) = true := decide_eq_true c14
            clear c14
            by_cases c15 : (ji13) < (l0.length : Int)
            ·rw [if_pos c15] at H
             have c15b0 : decide ((ji13) < (l0.length : Int)) = true := decide_eq_true c15
             clear c15
             by_cases c16 : ((rd_T41 l0 x22_2).f0) ≤ ((rd_T41 l0 (ji13)).f0)
             ·rw [if_pos c16] at H
              have c16b0 : decide (((rd_T41 l0 x22_2).f0) ≤ ((rd_T41 l0 (ji13)).f0)) = true := decide_eq_true c16
              clear c16
              obtain rfl := Option.some.inj H
              have p200 : 0 ≤ (x22_2 : Int) := dT_
              have q200 : x22_2 < (l0.length : Int) := dT_
              obtain ⟨ad200, e200, hx200_0, hx200_1⟩ := at_T41 HR0.out x22_2 p200 q200
              cases e200
              replace hx200_0 := (HB.out.cell (World.block_lt_of_cell? w _ hx200_0)).trans hx200_0
              replace hx200_1 := (HB.out.cell (World.block_lt_of_cell? w _ hx200_1)).trans hx200_1
              replace p200 := eq_true p200
              replace q200 := eq_true q200
              try go_wp2_with (first | ((with_reducible refine gate_dst (N := 4) rfl ?_); (try (refine gate_guard (by rfl) ?_; dsimp only)); refine box_event ?hg (N := 4) ?hd (cs := #[.int .i64 0, .int .i64 0]) (t := 41) ?hr ?_; (case hd => rfl); (case hg => rfl); (case hr => first | (go_simp; done) | (go_simp; rfl)); intro gb201 hg w17 hbox hb; have n0_ := M_ (bS_ hb); have n1_ := M_ (hbox); have n2_ := M_ ((by rw [hg]; exact bZ_ : w.heap.size ≤ gb201)); have n3_ := M_ ((by rw [hg]; exact bZ_ : w.heap.size ≤ gb201)); clear HB; have HB := n0_; have BK201 := n1_; have GW201 := n2_; have GE201 := n3_; clear n0_ n1_ n2_ n3_; clear hb hbox hg; have hcz18_0 : w17.cell? ⟨gb201, 0, none⟩ = some (.int .i64 0) := (blk_cell BK201.out 0).trans rfl; have hcz18_1 : w17.cell? ⟨gb201, 1, none⟩ = some (.int .i64 0) := (blk_cell BK201.out 1).trans rfl; have hfz18_0 := blk_frozen BK201.out 0; have hfz18_1 := blk_frozen BK201.out 1))
              have n0_ : Aside0 (((w17.setCell ⟨gb201, 0, none⟩ (.int .i64 ((rd_T41 l0 x22_2).f0))).setCell ⟨gb201, 1, none⟩ (.int .i64 ((rd_T41 l0 x22_2).f1))).heap[gb201]? = some (.cells #[.int .i64 ((rd_T41 l0 x22_2).f0), .int .i64 ((rd_T41 l0 x22_2).f1)] 41 (0, 0))) := ⟨by (with_reducible repeat (first | refine kn_ ?_ _ | refine kd_ ?_ | refine ka_ ?_ _)); refine blk_put (cs := #[.int .i64 ((rd_T41 l0 x22_2).f0), .int .i64 0]) ?_ 1 _ rfl; (with_reducible repeat (first | refine kn_ ?_ _ | refine kd_ ?_ | refine ka_ ?_ _)); refine blk_put (cs := #[.int .i64 0, .int .i64 0]) ?_ 0 _ rfl; (with_reducible repeat (first | refine kn_ ?_ _ | refine kd_ ?_ | refine ka_ ?_ _)); exact BK201.out⟩
              have n1_ : Aside0 (Below w.heap.size w ((w17.setCell ⟨gb201, 0, none⟩ (.int .i64 ((rd_T41 l0 x22_2).f0))).setCell ⟨gb201, 1, none⟩ (.int .i64 ((rd_T41 l0 x22_2).f1)))) := ⟨by repeat (first | (with_reducible first | exact HB.out | apply ba_ | apply bn_ | apply b1_ | refine bs_ ?_ GE201.out) | exact HB.out)⟩
              (try clear BK201)
              (try clear HB)
              generalize ((w17.setCell ⟨gb201, 0, none⟩ (.int .i64 ((rd_T41 l0 x22_2).f0))).setCell ⟨gb201, 1, none⟩ (.int .i64 ((rd_T41 l0 x22_2).f1))) = w19 at n0_ n1_ ⊢
              have BK201 := n0_
              have HB := n1_
              clear n0_ n1_
              have n0_ := M_ (kd_ BK201.out)
              have n1_ := M_ (b1_ HB.out)
              clear BK201
              clear HB
              have BK201 := n0_
              have HB := n1_
              clear n0_ n1_
              have p203 : 0 ≤ ((ji13) : Int) := dT_
              have q203 : (ji13) < (l0.length : Int) := dT_
              obtain ⟨ad203, e203, hx203_0, hx203_1⟩ := at_T41 HR0.out (ji13) p203 q203
              have hw203_1 := hx203_1
              have hw203_0 := hx203_0
              obtain rfl : ad200 = ad203 := (by injection e203)
              replace hx203_0 := (HB.out.cell (World.block_lt_of_cell? w _ hx203_0)).trans hx203_0
              replace hx203_1 := (HB.out.cell (World.block_lt_of_cell? w _ hx203_1)).trans hx203_1
              replace p203 := eq_true p203
              replace q203 := eq_true q203
              refine start_ (n := 18) (S := fun w' => w'.cell? ⟨gb201, 0, none⟩ = some (.int .i64 ((rd_T41 l0 x22_2).f0)) ∧ w'.cell? ⟨gb201, 1, none⟩ = some (.int .i64 ((rd_T41 l0 x22_2).f1)) ∧ w'.cell? (ad200.add (((ji13)).toNat * 2)) = some (.int .i64 ((rd_T41 l0 (ji13)).f0)) ∧ w'.cell? ⟨(ad200.add (((ji13)).toNat * 2)).block, (ad200.add (((ji13)).toNat * 2)).off + 1, none⟩ = some (.int .i64 ((rd_T41 l0 (ji13)).f1))) (ds := []) #[F_,F_,F_,F_,F_,F_,F_,F_,F_,F_,F_,F_,F_,F_,F_,F_,F_,F_] (by kernel_rfl) rfl rfl ⟨(blk_cell BK201.out 0).trans rfl, (blk_cell BK201.out 1).trans rfl, ((HB.out.cell (World.block_lt_of_cell? w _ hw203_0)).trans hw203_0), ((HB.out.cell (World.block_lt_of_cell? w _ hw203_1)).trans hw203_1)⟩ (fun hHeld => ?_); refine with_tabW impl_AreTempos.tab6 impl_AreTempos.bits6 (fun HT_ HW_ => ?_)
              generalize w19.drew = w20 at BK201 HB hx203_0 hx203_1 hHeld ⊢
              refine take_ (i := 0) (N := some 27) (v := ?_) (a' := ?_) #[T_,F_,F_,F_,F_,F_,F_,F_,F_,F_,F_,F_,F_,F_,F_,F_,F_,F_] rfl rfl (take_ofW HT_.out HW_.out (by kernel_rfl)) (fun _ _ _ h => h) (Or.inl ⟨by rfl, ?_⟩) hHeld ?_ ?_
              rotate_left
              ·rintro w' ⟨s0, s1, s2, s3⟩
               go_simp
               with_reducible rfl
              rotate_left
              ·simp only [Act.put, la_, lb_, lc_, i64_w, i32_w]
               rfl
              refine one_ (i := 1) (N := some 28) #[T_,T_,F_,F_,F_,F_,F_,F_,F_,F_,F_,F_,F_,F_,F_,F_,F_,F_] rfl rfl (one_of HT_.out (by kernel_rfl)) (by decide) (fun K hK => ?_)
              refine goes_ Try.func84 (by kernel_rfl) rfl #[.agg #[.int .i64 ((rd_T41 l0 x22_2).f0), .int .i64 ((rd_T41 l0 x22_2).f1)]] (by rfl) rfl rfl (by (try simp only [List.map_toArray, List.map_cons, List.map_nil]); first | done | rfl | (simp only [List.length_drop, List.length_take]; rfl)) ?_
              with_reducible refine (impl_isChange.calls ((rd_T41 l0 x22_2).f0) ((rd_T41 l0 x22_2).f1) true _ A10.out).mono ?_
              rintro e w21 ⟨rfl, hb⟩
              refine ⟨_, rfl, ?_⟩
              have n0_ := M_ (blk_below (g := gb201) (o := .cells #[.int .i64 ((rd_T41 l0 x22_2).f0), .int .i64 ((rd_T41 l0 x22_2).f1)] 41 (0, 0)) (by (with_reducible repeat (first | refine kn_ ?_ _ | refine kd_ ?_ | refine ka_ ?_ _)); exact BK201.out) hb)
              have n1_ := M_ (below_step (by repeat (first | (with_reducible first | exact HB.out | apply ba_ | apply bn_ | apply b1_ | refine bs_ ?_ GE201.out) | exact HB.out)) hb)
              clear BK201
              clear HB
              have BK201 := n0_
              have HB := n1_
              clear n0_ n1_
              (try clear hb)
              (try clear hb2)
              (try clear hk)
              (try clear hi)
              refine hK.out _ _ ⟨(blk_cell BK201.out 0).trans rfl, (blk_cell BK201.out 1).trans rfl, ((HB.out.cell (World.block_lt_of_cell? w _ hw203_0)).trans hw203_0), ((HB.out.cell (World.block_lt_of_cell? w _ hw203_1)).trans hw203_1)⟩ (fun hHeld => ?_)
              clear hK K
              refine norm_ (a' := ?_) ?_ ?_
              rotate_left
              ·show Act.put _ (some 28) _ = _
               simp only [Act.put, la_, lb_, lc_, i64_w, i32_w]
               rfl
              refine pR_ (i := 2) (N := some 29) #[T_,T_,T_,F_,F_,F_,F_,F_,F_,F_,F_,F_,F_,F_,F_,F_,F_,F_] ?_
              refine pR_ (i := 3) (N := some 30) #[T_,T_,T_,T_,F_,F_,F_,F_,F_,F_,F_,F_,F_,F_,F_,F_,F_,F_] ?_
              refine pR_ (i := 4) (N := some 31) #[T_,T_,T_,T_,T_,F_,F_,F_,F_,F_,F_,F_,F_,F_,F_,F_,F_,F_] ?_
              refine pR_ (i := 5) (N := some 32) #[T_,T_,T_,T_,T_,T_,F_,F_,F_,F_,F_,F_,F_,F_,F_,F_,F_,F_] ?_
              refine pR_ (i := 6) (N := some 33) #[T_,T_,T_,T_,T_,T_,T_,F_,F_,F_,F_,F_,F_,F_,F_,F_,F_,F_] ?_
              refine pR_ (i := 7) (N := some 34) #[T_,T_,T_,T_,T_,T_,T_,T_,F_,F_,F_,F_,F_,F_,F_,F_,F_,F_] ?_
              refine pR_ (i := 9) (N := some 36) #[T_,T_,T_,T_,T_,T_,T_,T_,F_,T_,F_,F_,F_,F_,F_,F_,F_,F_] ?_
              refine pR_ (i := 10) (N := some 37) #[T_,T_,T_,T_,T_,T_,T_,T_,F_,T_,T_,F_,F_,F_,F_,F_,F_,F_] ?_
              refine pR_ (i := 11) (N := some 38) #[T_,T_,T_,T_,T_,T_,T_,T_,F_,T_,T_,T_,F_,F_,F_,F_,F_,F_] ?_
              refine pR_ (i := 12) (N := some 39) #[T_,T_,T_,T_,T_,T_,T_,T_,F_,T_,T_,T_,T_,F_,F_,F_,F_,F_] ?_
              refine pR_ (i := 13) (N := some 40) #[T_,T_,T_,T_,T_,T_,T_,T_,F_,T_,T_,T_,T_,T_,F_,F_,F_,F_] ?_
              refine take_ (i := 8) (N := some 35) (v := ?_) (a' := ?_) #[T_,T_,T_,T_,T_,T_,T_,T_,T_,T_,T_,T_,T_,T_,F_,F_,F_,F_] rfl rfl (take_ofW HT_.out HW_.out (by kernel_rfl)) (fun _ _ _ h => h) (Or.inl ⟨by rfl, ?_⟩) hHeld ?_ ?_
              rotate_left
              ·rintro w' ⟨s0, s1, s2, s3⟩
               go_simp
               with_reducible rfl
              rotate_left
              ·simp only [Act.put, la_, lb_, lc_, i64_w, i32_w]
               rfl
              refine take_ (i := 14) (N := some 41) (v := ?_) (a' := ?_) #[T_,T_,T_,T_,T_,T_,T_,T_,T_,T_,T_,T_,T_,T_,T_,F_,F_,F_] rfl rfl (take_ofW HT_.out HW_.out (by kernel_rfl)) (fun _ _ _ h => h) (Or.inl ⟨by rfl, ?_⟩) hHeld ?_ ?_
              rotate_left
              ·rintro w' ⟨s0, s1, s2, s3⟩
               go_simp
               with_reducible rfl
              rotate_left
              ·simp only [Act.put, la_, lb_, lc_, i64_w, i32_w]
               rfl
              refine pR_ (i := 15) (N := some 42) #[T_,T_,T_,T_,T_,T_,T_,T_,T_,T_,T_,T_,T_,T_,T_,T_,F_,F_] ?_
              refine pR_ (i := 16) (N := some 43) #[T_,T_,T_,T_,T_,T_,T_,T_,T_,T_,T_,T_,T_,T_,T_,T_,T_,F_] ?_
              refine pR_ (i := 17) (N := some 44) #[T_,T_,T_,T_,T_,T_,T_,T_,T_,T_,T_,T_,T_,T_,T_,T_,T_,T_] ?_
              refine done_ (done_of HT_.out (by kernel_rfl)) ?_
              try go_wp2
              go_ret
              exact ⟨by first | rfl | (simp [errW_none, errW_some] <;> rfl) | (simp only [← hji13]; first | rfl | (simp [errW_none, errW_some] <;> rfl)) | (simp [*, errW_none, errW_some] <;> rfl), by repeat (first | (with_reducible first | exact HB.out | apply ba_ | apply bn_ | apply b1_ | refine bs_ ?_ GE201.out) | exact HB.out)⟩
             ·rw [if_neg c16] at H
              have c16b0 : decide (((rd_T41 l0 x22_2).f0) ≤ ((rd_T41 l0 (ji13)).f0)) = false := decide_eq_false c16
              clear c16
              have H' := M_ H
              clear H
              have p200 : 0 ≤ (x22_2 : Int) := dT_
              have q200 : x22_2 < (l0.length : Int) := dT_
              obtain ⟨ad200, e200, hx200_0, hx200_1⟩ := at_T41 HR0.out x22_2 p200 q200
              cases e200
              replace hx200_0 := (HB.out.cell (World.block_lt_of_cell? w _ hx200_0)).trans hx200_0
              replace hx200_1 := (HB.out.cell (World.block_lt_of_cell? w _ hx200_1)).trans hx200_1
              replace p200 := eq_true p200
              replace q200 := eq_true q200
              try go_wp2_with (first | ((with_reducible refine gate_dst (N := 4) rfl ?_); (try (refine gate_guard (by rfl) ?_; dsimp only)); refine box_event ?hg (N := 4) ?hd (cs := #[.int .i64 0, .int .i64 0]) (t := 41) ?hr ?_; (case hd => rfl); (case hg => rfl); (case hr => first | (go_simp; done) | (go_simp; rfl)); intro gb201 hg w22 hbox hb; have n0_ := M_ (bS_ hb); have n1_ := M_ (hbox); have n2_ := M_ ((by rw [hg]; exact bZ_ : w.heap.size ≤ gb201)); have n3_ := M_ ((by rw [hg]; exact bZ_ : w.heap.size ≤ gb201)); clear HB; have HB := n0_; have BK201 := n1_; have GW201 := n2_; have GE201 := n3_; clear n0_ n1_ n2_ n3_; clear hb hbox hg; have hcz23_0 : w22.cell? ⟨gb201, 0, none⟩ = some (.int .i64 0) := (blk_cell BK201.out 0).trans rfl; have hcz23_1 : w22.cell? ⟨gb201, 1, none⟩ = some (.int .i64 0) := (blk_cell BK201.out 1).trans rfl; have hfz23_0 := blk_frozen BK201.out 0; have hfz23_1 := blk_frozen BK201.out 1))
              have n0_ : Aside0 (((w22.setCell ⟨gb201, 0, none⟩ (.int .i64 ((rd_T41 l0 x22_2).f0))).setCell ⟨gb201, 1, none⟩ (.int .i64 ((rd_T41 l0 x22_2).f1))).heap[gb201]? = some (.cells #[.int .i64 ((rd_T41 l0 x22_2).f0), .int .i64 ((rd_T41 l0 x22_2).f1)] 41 (0, 0))) := ⟨by (with_reducible repeat (first | refine kn_ ?_ _ | refine kd_ ?_ | refine ka_ ?_ _)); refine blk_put (cs := #[.int .i64 ((rd_T41 l0 x22_2).f0), .int .i64 0]) ?_ 1 _ rfl; (with_reducible repeat (first | refine kn_ ?_ _ | refine kd_ ?_ | refine ka_ ?_ _)); refine blk_put (cs := #[.int .i64 0, .int .i64 0]) ?_ 0 _ rfl; (with_reducible repeat (first | refine kn_ ?_ _ | refine kd_ ?_ | refine ka_ ?_ _)); exact BK201.out⟩
              have n1_ : Aside0 (Below w.heap.size w ((w22.setCell ⟨gb201, 0, none⟩ (.int .i64 ((rd_T41 l0 x22_2).f0))).setCell ⟨gb201, 1, none⟩ (.int .i64 ((rd_T41 l0 x22_2).f1)))) := ⟨by repeat (first | (with_reducible first | exact HB.out | apply ba_ | apply bn_ | apply b1_ | refine bs_ ?_ GE201.out) | exact HB.out)⟩
              (try clear BK201)
              (try clear HB)
              generalize ((w22.setCell ⟨gb201, 0, none⟩ (.int .i64 ((rd_T41 l0 x22_2).f0))).setCell ⟨gb201, 1, none⟩ (.int .i64 ((rd_T41 l0 x22_2).f1))) = w24 at n0_ n1_ ⊢
              have BK201 := n0_
              have HB := n1_
              clear n0_ n1_
              have n0_ := M_ (kd_ BK201.out)
              have n1_ := M_ (b1_ HB.out)
              clear BK201
              clear HB
              have BK201 := n0_
              have HB := n1_
              clear n0_ n1_
              have p203 : 0 ≤ ((ji13) : Int) := dT_
              have q203 : (ji13) < (l0.length : Int) := dT_
              obtain ⟨ad203, e203, hx203_0, hx203_1⟩ := at_T41 HR0.out (ji13) p203 q203
              have hw203_1 := hx203_1
              have hw203_0 := hx203_0
              obtain rfl : ad200 = ad203 := (by injection e203)
              replace hx203_0 := (HB.out.cell (World.block_lt_of_cell? w _ hx203_0)).trans hx203_0
              replace hx203_1 := (HB.out.cell (World.block_lt_of_cell? w _ hx203_1)).trans hx203_1
              replace p203 := eq_true p203
              replace q203 := eq_true q203
              refine start_ (n := 18) (S := fun w' => w'.cell? ⟨gb201, 0, none⟩ = some (.int .i64 ((rd_T41 l0 x22_2).f0)) ∧ w'.cell? ⟨gb201, 1, none⟩ = some (.int .i64 ((rd_T41 l0 x22_2).f1)) ∧ w'.cell? (ad200.add (((ji13)).toNat * 2)) = some (.int .i64 ((rd_T41 l0 (ji13)).f0)) ∧ w'.cell? ⟨(ad200.add (((ji13)).toNat * 2)).block, (ad200.add (((ji13)).toNat * 2)).off + 1, none⟩ = some (.int .i64 ((rd_T41 l0 (ji13)).f1))) (ds := []) #[F_,F_,F_,F_,F_,F_,F_,F_,F_,F_,F_,F_,F_,F_,F_,F_,F_,F_] (by kernel_rfl) rfl rfl ⟨(blk_cell BK201.out 0).trans rfl, (blk_cell BK201.out 1).trans rfl, ((HB.out.cell (World.block_lt_of_cell? w _ hw203_0)).trans hw203_0), ((HB.out.cell (World.block_lt_of_cell? w _ hw203_1)).trans hw203_1)⟩ (fun hHeld => ?_); refine with_tabW impl_AreTempos.tab6 impl_AreTempos.bits6 (fun HT_ HW_ => ?_)
              generalize w24.drew = w25 at BK201 HB hx203_0 hx203_1 hHeld ⊢
              refine take_ (i := 0) (N := some 27) (v := ?_) (a' := ?_) #[T_,F_,F_,F_,F_,F_,F_,F_,F_,F_,F_,F_,F_,F_,F_,F_,F_,F_] rfl rfl (take_ofW HT_.out HW_.out (by kernel_rfl)) (fun _ _ _ h => h) (Or.inl ⟨by rfl, ?_⟩) hHeld ?_ ?_
              rotate_left
              ·rintro w' ⟨s0, s1, s2, s3⟩
               go_simp
               with_reducible rfl
              rotate_left
              ·simp only [Act.put, la_, lb_, lc_, i64_w, i32_w]
               rfl
              refine one_ (i := 1) (N := some 28) #[T_,T_,F_,F_,F_,F_,F_,F_,F_,F_,F_,F_,F_,F_,F_,F_,F_,F_] rfl rfl (one_of HT_.out (by kernel_rfl)) (by decide) (fun K hK => ?_)
              refine goes_ Try.func84 (by kernel_rfl) rfl #[.agg #[.int .i64 ((rd_T41 l0 x22_2).f0), .int .i64 ((rd_T41 l0 x22_2).f1)]] (by rfl) rfl rfl (by (try simp only [List.map_toArray, List.map_cons, List.map_nil]); first | done | rfl | (simp only [List.length_drop, List.length_take]; rfl)) ?_
              with_reducible refine (impl_isChange.calls ((rd_T41 l0 x22_2).f0) ((rd_T41 l0 x22_2).f1) true _ A10.out).mono ?_
              rintro e w26 ⟨rfl, hb⟩
              refine ⟨_, rfl, ?_⟩
              have n0_ := M_ (blk_below (g := gb201) (o := .cells #[.int .i64 ((rd_T41 l0 x22_2).f0), .int .i64 ((rd_T41 l0 x22_2).f1)] 41 (0, 0)) (by (with_reducible repeat (first | refine kn_ ?_ _ | refine kd_ ?_ | refine ka_ ?_ _)); exact BK201.out) hb)
              have n1_ := M_ (below_step (by repeat (first | (with_reducible first | exact HB.out | apply ba_ | apply bn_ | apply b1_ | refine bs_ ?_ GE201.out) | exact HB.out)) hb)
              clear BK201
              clear HB
              have BK201 := n0_
              have HB := n1_
              clear n0_ n1_
              (try clear hb)
              (try clear hb2)
              (try clear hk)
              (try clear hi)
              refine hK.out _ _ ⟨(blk_cell BK201.out 0).trans rfl, (blk_cell BK201.out 1).trans rfl, ((HB.out.cell (World.block_lt_of_cell? w _ hw203_0)).trans hw203_0), ((HB.out.cell (World.block_lt_of_cell? w _ hw203_1)).trans hw203_1)⟩ (fun hHeld => ?_)
              clear hK K
              refine norm_ (a' := ?_) ?_ ?_
              rotate_left
              ·show Act.put _ (some 28) _ = _
               simp only [Act.put, la_, lb_, lc_, i64_w, i32_w]
               rfl
              refine pR_ (i := 2) (N := some 29) #[T_,T_,T_,F_,F_,F_,F_,F_,F_,F_,F_,F_,F_,F_,F_,F_,F_,F_] ?_
              refine pR_ (i := 3) (N := some 30) #[T_,T_,T_,T_,F_,F_,F_,F_,F_,F_,F_,F_,F_,F_,F_,F_,F_,F_] ?_
              refine pR_ (i := 4) (N := some 31) #[T_,T_,T_,T_,T_,F_,F_,F_,F_,F_,F_,F_,F_,F_,F_,F_,F_,F_] ?_
              refine pR_ (i := 5) (N := some 32) #[T_,T_,T_,T_,T_,T_,F_,F_,F_,F_,F_,F_,F_,F_,F_,F_,F_,F_] ?_
              refine pR_ (i := 6) (N := some 33) #[T_,T_,T_,T_,T_,T_,T_,F_,F_,F_,F_,F_,F_,F_,F_,F_,F_,F_] ?_
              refine pR_ (i := 7) (N := some 34) #[T_,T_,T_,T_,T_,T_,T_,T_,F_,F_,F_,F_,F_,F_,F_,F_,F_,F_] ?_
              refine pR_ (i := 9) (N := some 36) #[T_,T_,T_,T_,T_,T_,T_,T_,F_,T_,F_,F_,F_,F_,F_,F_,F_,F_] ?_
              refine pR_ (i := 10) (N := some 37) #[T_,T_,T_,T_,T_,T_,T_,T_,F_,T_,T_,F_,F_,F_,F_,F_,F_,F_] ?_
              refine pR_ (i := 11) (N := some 38) #[T_,T_,T_,T_,T_,T_,T_,T_,F_,T_,T_,T_,F_,F_,F_,F_,F_,F_] ?_
              refine pR_ (i := 12) (N := some 39) #[T_,T_,T_,T_,T_,T_,T_,T_,F_,T_,T_,T_,T_,F_,F_,F_,F_,F_] ?_
              refine pR_ (i := 13) (N := some 40) #[T_,T_,T_,T_,T_,T_,T_,T_,F_,T_,T_,T_,T_,T_,F_,F_,F_,F_] ?_
              refine take_ (i := 8) (N := some 35) (v := ?_) (a' := ?_) #[T_,T_,T_,T_,T_,T_,T_,T_,T_,T_,T_,T_,T_,T_,F_,F_,F_,F_] rfl rfl (take_ofW HT_.out HW_.out (by kernel_rfl)) (fun _ _ _ h => h) (Or.inl ⟨by rfl, ?_⟩) hHeld ?_ ?_
              rotate_left
              ·rintro w' ⟨s0, s1, s2, s3⟩
               go_simp
               with_reducible rfl
              rotate_left
              ·simp only [Act.put, la_, lb_, lc_, i64_w, i32_w]
               rfl
              refine take_ (i := 14) (N := some 41) (v := ?_) (a' := ?_) #[T_,T_,T_,T_,T_,T_,T_,T_,T_,T_,T_,T_,T_,T_,T_,F_,F_,F_] rfl rfl (take_ofW HT_.out HW_.out (by kernel_rfl)) (fun _ _ _ h => h) (Or.inl ⟨by rfl, ?_⟩) hHeld ?_ ?_
              rotate_left
              ·rintro w' ⟨s0, s1, s2, s3⟩
               go_simp
               with_reducible rfl
              rotate_left
              ·simp only [Act.put, la_, lb_, lc_, i64_w, i32_w]
               rfl
              refine pR_ (i := 15) (N := some 42) #[T_,T_,T_,T_,T_,T_,T_,T_,T_,T_,T_,T_,T_,T_,T_,T_,F_,F_] ?_
              refine pR_ (i := 16) (N := some 43) #[T_,T_,T_,T_,T_,T_,T_,T_,T_,T_,T_,T_,T_,T_,T_,T_,T_,F_] ?_
              refine pR_ (i := 17) (N := some 44) #[T_,T_,T_,T_,T_,T_,T_,T_,T_,T_,T_,T_,T_,T_,T_,T_,T_,T_] ?_
              refine done_ (done_of HT_.out (by kernel_rfl)) ?_
              try go_wp2
              go_roundg k2
              case measure => have := HJ1.out; have := HK2.out; omega
              case rel => exact ⟨(wrap64 (x22_2 + 1)), (by first | rfl | (simp; done) | (simp [*]; done)), H', ⟨by have := HJ1.out; have := HK2.out; omega⟩, ⟨by repeat (first | (with_reducible first | exact HB.out | apply ba_ | apply bn_ | apply b1_ | refine bs_ ?_ GE201.out) | exact HB.out)⟩⟩
            ·rw [if_neg c15] at H
             exact absurd H (by simp)
           ·rw [if_neg c14] at H
            exact absurd H (by simp)
          ·rw [if_neg c12] at H
           have c12b0 : decide (0 < x22_2) = false := decide_eq_false c12
           clear c12
           have H' := M_ H
           clear H
           have p200 : 0 ≤ (x22_2 : Int) := dT_
           have q200 : x22_2 < (l0.length : Int) := dT_
           obtain ⟨ad200, e200, hx200_0, hx200_1⟩ := at_T41 HR0.out x22_2 p200 q200
           cases e200
           replace hx200_0 := (HB.out.cell (World.block_lt_of_cell? w _ hx200_0)).trans hx200_0
           replace hx200_1 := (HB.out.cell (World.block_lt_of_cell? w _ hx200_1)).trans hx200_1
           replace p200 := eq_true p200
           replace q200 := eq_true q200
           try go_wp2_with (first | ((with_reducible refine gate_dst (N := 4) rfl ?_); (try (refine gate_guard (by rfl) ?_; dsimp only)); refine box_event ?hg (N := 4) ?hd (cs := #[.int .i64 0, .int .i64 0]) (t := 41) ?hr ?_; (case hd => rfl); (case hg => rfl); (case hr => first | (go_simp; done) | (go_simp; rfl)); intro gb201 hg w27 hbox hb; have n0_ := M_ (bS_ hb); have n1_ := M_ (hbox); have n2_ := M_ ((by rw [hg]; exact bZ_ : w.heap.size ≤ gb201)); have n3_ := M_ ((by rw [hg]; exact bZ_ : w.heap.size ≤ gb201)); clear HB; have HB := n0_; have BK201 := n1_; have GW201 := n2_; have GE201 := n3_; clear n0_ n1_ n2_ n3_; clear hb hbox hg; have hcz28_0 : w27.cell? ⟨gb201, 0, none⟩ = some (.int .i64 0) := (blk_cell BK201.out 0).trans rfl; have hcz28_1 : w27.cell? ⟨gb201, 1, none⟩ = some (.int .i64 0) := (blk_cell BK201.out 1).trans rfl; have hfz28_0 := blk_frozen BK201.out 0; have hfz28_1 := blk_frozen BK201.out 1))
           have n0_ : Aside0 (((w27.setCell ⟨gb201, 0, none⟩ (.int .i64 ((rd_T41 l0 x22_2).f0))).setCell ⟨gb201, 1, none⟩ (.int .i64 ((rd_T41 l0 x22_2).f1))).heap[gb201]? = some (.cells #[.int .i64 ((rd_T41 l0 x22_2).f0), .int .i64 ((rd_T41 l0 x22_2).f1)] 41 (0, 0))) := ⟨by (with_reducible repeat (first | refine kn_ ?_ _ | refine kd_ ?_ | refine ka_ ?_ _)); refine blk_put (cs := #[.int .i64 ((rd_T41 l0 x22_2).f0), .int .i64 0]) ?_ 1 _ rfl; (with_reducible repeat (first | refine kn_ ?_ _ | refine kd_ ?_ | refine ka_ ?_ _)); refine blk_put (cs := #[.int .i64 0, .int .i64 0]) ?_ 0 _ rfl; (with_reducible repeat (first | refine kn_ ?_ _ | refine kd_ ?_ | refine ka_ ?_ _)); exact BK201.out⟩
           have n1_ : Aside0 (Below w.heap.size w ((w27.setCell ⟨gb201, 0, none⟩ (.int .i64 ((rd_T41 l0 x22_2).f0))).setCell ⟨gb201, 1, none⟩ (.int .i64 ((rd_T41 l0 x22_2).f1)))) := ⟨by repeat (first | (with_reducible first | exact HB.out | apply ba_ | apply bn_ | apply b1_ | refine bs_ ?_ GE201.out) | exact HB.out)⟩
           (try clear BK201)
           (try clear HB)
           generalize ((w27.setCell ⟨gb201, 0, none⟩ (.int .i64 ((rd_T41 l0 x22_2).f0))).setCell ⟨gb201, 1, none⟩ (.int .i64 ((rd_T41 l0 x22_2).f1))) = w29 at n0_ n1_ ⊢
           have BK201 := n0_
           have HB := n1_
           clear n0_ n1_
           have n0_ := M_ (kd_ BK201.out)
           have n1_ := M_ (b1_ HB.out)
           clear BK201
           clear HB
           have BK201 := n0_
           have HB := n1_
           clear n0_ n1_
           refine start_ (n := 18) (S := fun w' => w'.cell? ⟨gb201, 0, none⟩ = some (.int .i64 ((rd_T41 l0 x22_2).f0)) ∧ w'.cell? ⟨gb201, 1, none⟩ = some (.int .i64 ((rd_T41 l0 x22_2).f1))) (ds := []) #[F_,F_,F_,F_,F_,F_,F_,F_,F_,F_,F_,F_,F_,F_,F_,F_,F_,F_] (by kernel_rfl) rfl rfl ⟨(blk_cell BK201.out 0).trans rfl, (blk_cell BK201.out 1).trans rfl⟩ (fun hHeld => ?_); refine with_tabW impl_AreTempos.tab6 impl_AreTempos.bits6 (fun HT_ HW_ => ?_)
           generalize w29.drew = w30 at BK201 HB hHeld ⊢
           refine take_ (i := 0) (N := some 27) (v := ?_) (a' := ?_) #[T_,F_,F_,F_,F_,F_,F_,F_,F_,F_,F_,F_,F_,F_,F_,F_,F_,F_] rfl rfl (take_ofW HT_.out HW_.out (by kernel_rfl)) (fun _ _ _ h => h) (Or.inl ⟨by rfl, ?_⟩) hHeld ?_ ?_
           rotate_left
           ·rintro w' ⟨s0, s1⟩
            go_simp
            with_reducible rfl
           rotate_left
           ·simp only [Act.put, la_, lb_, lc_, i64_w, i32_w]
            rfl
           refine one_ (i := 1) (N := some 28) #[T_,T_,F_,F_,F_,F_,F_,F_,F_,F_,F_,F_,F_,F_,F_,F_,F_,F_] rfl rfl (one_of HT_.out (by kernel_rfl)) (by decide) (fun K hK => ?_)
           refine goes_ Try.func84 (by kernel_rfl) rfl #[.agg #[.int .i64 ((rd_T41 l0 x22_2).f0), .int .i64 ((rd_T41 l0 x22_2).f1)]] (by rfl) rfl rfl (by (try simp only [List.map_toArray, List.map_cons, List.map_nil]); first | done | rfl | (simp only [List.length_drop, List.length_take]; rfl)) ?_
           with_reducible refine (impl_isChange.calls ((rd_T41 l0 x22_2).f0) ((rd_T41 l0 x22_2).f1) true _ A10.out).mono ?_
           rintro e w31 ⟨rfl, hb⟩
           refine ⟨_, rfl, ?_⟩
           have n0_ := M_ (blk_below (g := gb201) (o := .cells #[.int .i64 ((rd_T41 l0 x22_2).f0), .int .i64 ((rd_T41 l0 x22_2).f1)] 41 (0, 0)) (by (with_reducible repeat (first | refine kn_ ?_ _ | refine kd_ ?_ | refine ka_ ?_ _)); exact BK201.out) hb)
           have n1_ := M_ (below_step (by repeat (first | (with_reducible first | exact HB.out | apply ba_ | apply bn_ | apply b1_ | refine bs_ ?_ GE201.out) | exact HB.out)) hb)
           clear BK201
           clear HB
           have BK201 := n0_
           have HB := n1_
           clear n0_ n1_
           (try clear hb)
           (try clear hb2)
           (try clear hk)
           (try clear hi)
           refine hK.out _ _ ⟨(blk_cell BK201.out 0).trans rfl, (blk_cell BK201.out 1).trans rfl⟩ (fun hHeld => ?_)
           clear hK K
           refine norm_ (a' := ?_) ?_ ?_
           rotate_left
           ·show Act.put _ (some 28) _ = _
            simp only [Act.put, la_, lb_, lc_, i64_w, i32_w]
            rfl
           refine pR_ (i := 2) (N := some 29) #[T_,T_,T_,F_,F_,F_,F_,F_,F_,F_,F_,F_,F_,F_,F_,F_,F_,F_] ?_
           refine pR_ (i := 3) (N := some 30) #[T_,T_,T_,T_,F_,F_,F_,F_,F_,F_,F_,F_,F_,F_,F_,F_,F_,F_] ?_
           refine pR_ (i := 4) (N := some 31) #[T_,T_,T_,T_,T_,F_,F_,F_,F_,F_,F_,F_,F_,F_,F_,F_,F_,F_] ?_
           refine pR_ (i := 5) (N := some 32) #[T_,T_,T_,T_,T_,T_,F_,F_,F_,F_,F_,F_,F_,F_,F_,F_,F_,F_] ?_
           refine pR_ (i := 6) (N := some 33) #[T_,T_,T_,T_,T_,T_,T_,F_,F_,F_,F_,F_,F_,F_,F_,F_,F_,F_] ?_
           refine pU_ (i := 7) (N := some 34) #[T_,T_,T_,T_,T_,T_,T_,T_,F_,F_,F_,F_,F_,F_,F_,F_,F_,F_] ?_
           refine pU_ (i := 8) (N := some 35) #[T_,T_,T_,T_,T_,T_,T_,T_,T_,F_,F_,F_,F_,F_,F_,F_,F_,F_] ?_
           refine pU_ (i := 9) (N := some 36) #[T_,T_,T_,T_,T_,T_,T_,T_,T_,T_,F_,F_,F_,F_,F_,F_,F_,F_] ?_
           refine pU_ (i := 10) (N := some 37) #[T_,T_,T_,T_,T_,T_,T_,T_,T_,T_,T_,F_,F_,F_,F_,F_,F_,F_] ?_
           refine pU_ (i := 11) (N := some 38) #[T_,T_,T_,T_,T_,T_,T_,T_,T_,T_,T_,T_,F_,F_,F_,F_,F_,F_] ?_
           refine pU_ (i := 12) (N := some 39) #[T_,T_,T_,T_,T_,T_,T_,T_,T_,T_,T_,T_,T_,F_,F_,F_,F_,F_] ?_
           refine pU_ (i := 13) (N := some 40) #[T_,T_,T_,T_,T_,T_,T_,T_,T_,T_,T_,T_,T_,T_,F_,F_,F_,F_] ?_
           refine pU_ (i := 14) (N := some 41) #[T_,T_,T_,T_,T_,T_,T_,T_,T_,T_,T_,T_,T_,T_,T_,F_,F_,F_] ?_
           refine pU_ (i := 15) (N := some 42) #[T_,T_,T_,T_,T_,T_,T_,T_,T_,T_,T_,T_,T_,T_,T_,T_,F_,F_] ?_
           refine pR_ (i := 16) (N := some 43) #[T_,T_,T_,T_,T_,T_,T_,T_,T_,T_,T_,T_,T_,T_,T_,T_,T_,F_] ?_
           refine pR_ (i := 17) (N := some 44) #[T_,T_,T_,T_,T_,T_,T_,T_,T_,T_,T_,T_,T_,T_,T_,T_,T_,T_] ?_
           refine done_ (done_of HT_.out (by kernel_rfl)) ?_
           try go_wp2
           go_roundg k2
           case measure => have := HJ1.out; have := HK2.out; omega
           case rel => exact ⟨(wrap64 (x22_2 + 1)), (by first | rfl | (simp; done) | (simp [*]; done)), H', ⟨by have := HJ1.out; have := HK2.out; omega⟩, ⟨by repeat (first | (with_reducible first | exact HB.out | apply ba_ | apply bn_ | apply b1_ | refine bs_ ?_ GE201.out) | exact HB.out)⟩⟩
         ·replace c11 := Bool.eq_false_iff.mpr c11
          subst c11
          have H1 : (some false) = some r := by rw [if_neg (show ¬ (false = true) by decide)] at H; exact H
          clear H
          have H := H1
          clear H1
          obtain rfl := Option.some.inj H
          have p200 : 0 ≤ (x22_2 : Int) := dT_
          have q200 : x22_2 < (l0.length : Int) := dT_
          obtain ⟨ad200, e200, hx200_0, hx200_1⟩ := at_T41 HR0.out x22_2 p200 q200
          cases e200
          replace hx200_0 := (HB.out.cell (World.block_lt_of_cell? w _ hx200_0)).trans hx200_0
          replace hx200_1 := (HB.out.cell (World.block_lt_of_cell? w _ hx200_1)).trans hx200_1
          replace p200 := eq_true p200
          replace q200 := eq_true q200
          try go_wp2_with (first | ((with_reducible refine gate_dst (N := 4) rfl ?_); (try (refine gate_guard (by rfl) ?_; dsimp only)); refine box_event ?hg (N := 4) ?hd (cs := #[.int .i64 0, .int .i64 0]) (t := 41) ?hr ?_; (case hd => rfl); (case hg => rfl); (case hr => first | (go_simp; done) | (go_simp; rfl)); intro gb201 hg w32 hbox hb; have n0_ := M_ (bS_ hb); have n1_ := M_ (hbox); have n2_ := M_ ((by rw [hg]; exact bZ_ : w.heap.size ≤ gb201)); have n3_ := M_ ((by rw [hg]; exact bZ_ : w.heap.size ≤ gb201)); clear HB; have HB := n0_; have BK201 := n1_; have GW201 := n2_; have GE201 := n3_; clear n0_ n1_ n2_ n3_; clear hb hbox hg; have hcz33_0 : w32.cell? ⟨gb201, 0, none⟩ = some (.int .i64 0) := (blk_cell BK201.out 0).trans rfl; have hcz33_1 : w32.cell? ⟨gb201, 1, none⟩ = some (.int .i64 0) := (blk_cell BK201.out 1).trans rfl; have hfz33_0 := blk_frozen BK201.out 0; have hfz33_1 := blk_frozen BK201.out 1))
          have n0_ : Aside0 (((w32.setCell ⟨gb201, 0, none⟩ (.int .i64 ((rd_T41 l0 x22_2).f0))).setCell ⟨gb201, 1, none⟩ (.int .i64 ((rd_T41 l0 x22_2).f1))).heap[gb201]? = some (.cells #[.int .i64 ((rd_T41 l0 x22_2).f0), .int .i64 ((rd_T41 l0 x22_2).f1)] 41 (0, 0))) := ⟨by (with_reducible repeat (first | refine kn_ ?_ _ | refine kd_ ?_ | refine ka_ ?_ _)); refine blk_put (cs := #[.int .i64 ((rd_T41 l0 x22_2).f0), .int .i64 0]) ?_ 1 _ rfl; (with_reducible repeat (first | refine kn_ ?_ _ | refine kd_ ?_ | refine ka_ ?_ _)); refine blk_put (cs := #[.int .i64 0, .int .i64 0]) ?_ 0 _ rfl; (with_reducible repeat (first | refine kn_ ?_ _ | refine kd_ ?_ | refine ka_ ?_ _)); exact BK201.out⟩
          have n1_ : Aside0 (Below w.heap.size w ((w32.setCell ⟨gb201, 0, none⟩ (.int .i64 ((rd_T41 l0 x22_2).f0))).setCell ⟨gb201, 1, none⟩ (.int .i64 ((rd_T41 l0 x22_2).f1)))) := ⟨by repeat (first | (with_reducible first | exact HB.out | apply ba_ | apply bn_ | apply b1_ | refine bs_ ?_ GE201.out) | exact HB.out)⟩
          (try clear BK201)
          (try clear HB)
          generalize ((w32.setCell ⟨gb201, 0, none⟩ (.int .i64 ((rd_T41 l0 x22_2).f0))).setCell ⟨gb201, 1, none⟩ (.int .i64 ((rd_T41 l0 x22_2).f1))) = w34 at n0_ n1_ ⊢
          have BK201 := n0_
          have HB := n1_
          clear n0_ n1_
          have n0_ := M_ (kd_ BK201.out)
          have n1_ := M_ (b1_ HB.out)
          clear BK201
          clear HB
          have BK201 := n0_
          have HB := n1_
          clear n0_ n1_
          refine start_ (n := 18) (S := fun w' => w'.cell? ⟨gb201, 0, none⟩ = some (.int .i64 ((rd_T41 l0 x22_2).f0)) ∧ w'.cell? ⟨gb201, 1, none⟩ = some (.int .i64 ((rd_T41 l0 x22_2).f1))) (ds := []) #[F_,F_,F_,F_,F_,F_,F_,F_,F_,F_,F_,F_,F_,F_,F_,F_,F_,F_] (by kernel_rfl) rfl rfl ⟨(blk_cell BK201.out 0).trans rfl, (blk_cell BK201.out 1).trans rfl⟩ (fun hHeld => ?_); refine with_tabW impl_AreTempos.tab6 impl_AreTempos.bits6 (fun HT_ HW_ => ?_)
          generalize w34.drew = w35 at BK201 HB hHeld ⊢
          refine take_ (i := 0) (N := some 27) (v := ?_) (a' := ?_) #[T_,F_,F_,F_,F_,F_,F_,F_,F_,F_,F_,F_,F_,F_,F_,F_,F_,F_] rfl rfl (take_ofW HT_.out HW_.out (by kernel_rfl)) (fun _ _ _ h => h) (Or.inl ⟨by rfl, ?_⟩) hHeld ?_ ?_
          rotate_left
          ·rintro w' ⟨s0, s1⟩
           go_simp
           with_reducible rfl
          rotate_left
          ·simp only [Act.put, la_, lb_, lc_, i64_w, i32_w]
           rfl
          refine one_ (i := 1) (N := some 28) #[T_,T_,F_,F_,F_,F_,F_,F_,F_,F_,F_,F_,F_,F_,F_,F_,F_,F_] rfl rfl (one_of HT_.out (by kernel_rfl)) (by decide) (fun K hK => ?_)
          refine goes_ Try.func84 (by kernel_rfl) rfl #[.agg #[.int .i64 ((rd_T41 l0 x22_2).f0), .int .i64 ((rd_T41 l0 x22_2).f1)]] (by rfl) rfl rfl (by (try simp only [List.map_toArray, List.map_cons, List.map_nil]); first | done | rfl | (simp only [List.length_drop, List.length_take]; rfl)) ?_
          with_reducible refine (impl_isChange.calls ((rd_T41 l0 x22_2).f0) ((rd_T41 l0 x22_2).f1) false _ A10.out).mono ?_
          rintro e w36 ⟨rfl, hb⟩
          refine ⟨_, rfl, ?_⟩
          have n0_ := M_ (blk_below (g := gb201) (o := .cells #[.int .i64 ((rd_T41 l0 x22_2).f0), .int .i64 ((rd_T41 l0 x22_2).f1)] 41 (0, 0)) (by (with_reducible repeat (first | refine kn_ ?_ _ | refine kd_ ?_ | refine ka_ ?_ _)); exact BK201.out) hb)
          have n1_ := M_ (below_step (by repeat (first | (with_reducible first | exact HB.out | apply ba_ | apply bn_ | apply b1_ | refine bs_ ?_ GE201.out) | exact HB.out)) hb)
          clear BK201
          clear HB
          have BK201 := n0_
          have HB := n1_
          clear n0_ n1_
          (try clear hb)
          (try clear hb2)
          (try clear hk)
          (try clear hi)
          refine hK.out _ _ ⟨(blk_cell BK201.out 0).trans rfl, (blk_cell BK201.out 1).trans rfl⟩ (fun hHeld => ?_)
          clear hK K
          refine norm_ (a' := ?_) ?_ ?_
          rotate_left
          ·show Act.put _ (some 28) _ = _
           simp only [Act.put, la_, lb_, lc_, i64_w, i32_w]
           rfl
          refine pR_ (i := 2) (N := some 29) #[T_,T_,T_,F_,F_,F_,F_,F_,F_,F_,F_,F_,F_,F_,F_,F_,F_,F_] ?_
          refine pR_ (i := 3) (N := some 30) #[T_,T_,T_,T_,F_,F_,F_,F_,F_,F_,F_,F_,F_,F_,F_,F_,F_,F_] ?_
          refine pU_ (i := 4) (N := some 31) #[T_,T_,T_,T_,T_,F_,F_,F_,F_,F_,F_,F_,F_,F_,F_,F_,F_,F_] ?_
          refine pU_ (i := 5) (N := some 32) #[T_,T_,T_,T_,T_,T_,F_,F_,F_,F_,F_,F_,F_,F_,F_,F_,F_,F_] ?_
          refine pU_ (i := 6) (N := some 33) #[T_,T_,T_,T_,T_,T_,T_,F_,F_,F_,F_,F_,F_,F_,F_,F_,F_,F_] ?_
          refine pU_ (i := 7) (N := some 34) #[T_,T_,T_,T_,T_,T_,T_,T_,F_,F_,F_,F_,F_,F_,F_,F_,F_,F_] ?_
          refine pU_ (i := 8) (N := some 35) #[T_,T_,T_,T_,T_,T_,T_,T_,T_,F_,F_,F_,F_,F_,F_,F_,F_,F_] ?_
          refine pU_ (i := 9) (N := some 36) #[T_,T_,T_,T_,T_,T_,T_,T_,T_,T_,F_,F_,F_,F_,F_,F_,F_,F_] ?_
          refine pU_ (i := 10) (N := some 37) #[T_,T_,T_,T_,T_,T_,T_,T_,T_,T_,T_,F_,F_,F_,F_,F_,F_,F_] ?_
          refine pU_ (i := 11) (N := some 38) #[T_,T_,T_,T_,T_,T_,T_,T_,T_,T_,T_,T_,F_,F_,F_,F_,F_,F_] ?_
          refine pU_ (i := 12) (N := some 39) #[T_,T_,T_,T_,T_,T_,T_,T_,T_,T_,T_,T_,T_,F_,F_,F_,F_,F_] ?_
          refine pU_ (i := 13) (N := some 40) #[T_,T_,T_,T_,T_,T_,T_,T_,T_,T_,T_,T_,T_,T_,F_,F_,F_,F_] ?_
          refine pU_ (i := 14) (N := some 41) #[T_,T_,T_,T_,T_,T_,T_,T_,T_,T_,T_,T_,T_,T_,T_,F_,F_,F_] ?_
          refine pU_ (i := 15) (N := some 42) #[T_,T_,T_,T_,T_,T_,T_,T_,T_,T_,T_,T_,T_,T_,T_,T_,F_,F_] ?_
          refine pU_ (i := 16) (N := some 43) #[T_,T_,T_,T_,T_,T_,T_,T_,T_,T_,T_,T_,T_,T_,T_,T_,T_,F_] ?_
          refine pR_ (i := 17) (N := some 44) #[T_,T_,T_,T_,T_,T_,T_,T_,T_,T_,T_,T_,T_,T_,T_,T_,T_,T_] ?_
          refine done_ (done_of HT_.out (by kernel_rfl)) ?_
          try go_wp2
          go_ret
          exact ⟨by first | rfl | (simp [errW_none, errW_some] <;> rfl) | (simp [*, errW_none, errW_some] <;> rfl), by repeat (first | (with_reducible first | exact HB.out | apply ba_ | apply bn_ | apply b1_ | refine bs_ ?_ GE201.out) | exact HB.out)⟩
        ·rw [if_neg c9] at H
         exact absurd H (by simp)
       ·rw [if_neg c8] at H
        exact absurd H (by simp)
      ·rw [if_neg c7] at H
       have c7b0 : decide (x22_2 < (l0.length : Int)) = false := decide_eq_false c7
       clear c7
       obtain rfl := Option.some.inj H
       go_wp2
       go_ret
       exact eW_

end Go.Proofs.Ytgeipgflhjakjaa.PFnTempoChanges
