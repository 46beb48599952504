-- by wip/xprint.py, over the kit's printer
import Derived.Test.YtfpfjnmjekjnhaaGreatDoorPFnScoresx0
import Derived.Test.YtfpfjnmjekjnhaaGreatDoorShelf
import Derived.Test.YtfpfjnmjekjnhaaGreatDoorStb3
import Derived.Test.YtfpfjnmjekjnhaaGreatDoorNso
import Derived.Deep.RegionHeld3
import Derived.Test.YtfpfjnmjekjnhaaGreatDoorPFnScoresx1
import Derived.Test.YtfpfjnmjekjnhaaGreatDoorPFnScoresx3
namespace Go.Proofs.YtfpfjnmjekjnhaaGreatDoor.PFnScores
open Go.RowKit Go.Proofs.YtfpfjnmjekjnhaaGreatDoorW.PrintWords Go.Proofs.YtfpfjnmjekjnhaaGreatDoorW.PrintLast Go.Proofs.YtfpfjnmjekjnhaaGreatDoorW.PrintMore
attribute [local go_sem] max2_int min2_int max_two min_two max_three min_three max_four min_four   -- for this text's walks alone
set_option linter.unusedVariables false
set_option linter.unusedSimpArgs false

attribute [local go_sem high] eqA31
def impl_scoreOf.f (k : Nat) (l0 : List (S31)) : Option ((List (S31)) × Bool) := (impl_IsScore.f k l0).bind fun t118 => (if t118 = true then (some (l0, true)) else (some (([] : List (S31)), false)))
theorem impl_scoreOf.mono : ∀ a0 k, LeO (impl_scoreOf.f k a0) (impl_scoreOf.f (k + 1) a0) := by
 intro a0 k
 unfold impl_scoreOf.f
 have m0_ := @impl_IsScore.mono;exact mo_
set_option maxHeartbeats 8000000 in
set_option maxRecDepth 100000 in
theorem impl_scoreOf.calls (k : Nat) (P0_ : Nat → Prop) (u9000_ : Value) (l0 : List (S31)) (r1 : List (S31)) (r2 : Bool) (w0 w : World) (hB : Below w0.heap.size w0 w) (ho0 : Kd.R k31 31 w w0.heap.size P0_ u9000_ l0) (h : impl_scoreOf.f k l0 = some (r1, r2)) :
  Calls Tryz.prog 43 #[u9000_] w fun e w' => ∃ v0_ : Value, e = .returned (.tuple #[v0_, .bool r2]) ∧ Kd.R k31 31 w' w0.heap.size (fun k_ => (P0_ k_ ∨ w.heap.size ≤ k_)) v0_ r1 ∧ Below w0.heap.size w0 w' ∧ Kept w w' (fun k_ => P0_ k_) := by
 have HO0 := M_ (show Kd.R k31 31 w w0.heap.size (fun k_ => (P0_ k_ ∨ w.heap.size ≤ k_)) u9000_ l0 from rm_ ho0 (fun k_ hk => (.inl hk)));have HK := M_ (Kept.refl w (fun k_ => P0_ k_));have HW0 := M_ hB.size;have HB := M_ hB;clear hB
 have H : ((impl_IsScore.f k l0).bind fun t118 => (if t118 = true then (some (l0, true)) else (some (([] : List (S31)), false)))) = some (r1, r2) := h
 clear h;replace H := Option.bind_eq_some_iff.mp H;obtain ⟨t118, A20, H⟩ := H;(try dsimp only at H);have A2 := M_ A20;clear A20
 by_cases c3 : t118 = true
 focus
  subst c3
  rw [if_pos rfl] at H
 rotate_left
 focus
  replace c3 := Bool.eq_false_iff.mpr c3
  subst c3
  rw [if_neg (show ¬ (false = true) by decide)] at H
 rotate_left
 all_goals
  simp only [Option.some.injEq, Prod.mk.injEq] at H;obtain ⟨rfl, rfl⟩ := H;obtain ⟨Ao4, co4, eo4⟩ := Kd.R_slice HO0.out;subst eo4
  go_enter Tryz.func43, Tryz.ntmps43
  go_wp2_with (first | ((with_reducible refine gc_ 10 ?_); refine gM_ (some 5) Tryz.func10 #[.slice Ao4 l0.length co4] ?_; (with_reducible refine (impl_IsScore.calls k _ _ l0 _ _ ?side1 ?side2 A2.out).mono ?_); (case side1 => exact cU_ (Kd.R_reads' HO0.out).2.2); (case side2 => exact (Kd.R_reads' HO0.out).2.1); rintro e w5 ⟨rfl, hb⟩; refine ⟨_, rfl, ?_⟩; replace HO0 := M_ (rB_ HO0 hb); replace HK := M_ (Kept.below (S := (fun k_ => P0_ k_)) (by repeat (first | (with_reducible first | exact HK.out | apply Kept.alloc | apply Kept.drewN | apply Kept.drew) | exact HK.out)) hb); replace HB := M_ (bS_ HB hb); clear hb))
  go_ret2
 ·exact ⟨_, eR_, rU_ HO0.out, bU_ HB, by repeat (first | (with_reducible first | exact HK.out | apply Kept.alloc | apply Kept.drewN | apply Kept.drew) | exact HK.out)⟩
 ·exact ⟨_, eR_, by first | exact Kd.R_nil _ _ _ _ _ | exact Kd.N_nil _ _ _ _ _ | exact Kd.V_nil _ _ _ _ _ | exact Kd.Q_nil _ _ _ _ _ | exact Kd.S_nil _ _ _ _ _, bU_ HB, by repeat (first | (with_reducible first | exact HK.out | apply Kept.alloc | apply Kept.drewN | apply Kept.drew) | exact HK.out)⟩
def clone_Note.f (l0 : List (S31)) : Option ((List (S31))) := (some (([] : List (S31)) : List (S31))).bind fun y119 => (if y119.length + l0.length < 5864062014805 then (some (y119 ++ l0)) else (none))
set_option maxHeartbeats 8000000 in
set_option maxRecDepth 100000 in
theorem clone_Note.calls (A0 : Option Addr) (c0 : Nat) (l0 : List (S31)) (r : List (S31)) (w : World) (hr0 : Kd.C k31 w A0 l0.length l0) (hc0 : l0.length ≤ c0) (h : clone_Note.f l0 = some r) :
  Calls Tryz.prog 48 #[.slice A0 l0.length c0] w fun e w' => ∃ v0_ : Value, e = .returned (v0_) ∧ Kd.R k31 31 w' w.heap.size (fun _ => True) v0_ r ∧ Below w.heap.size w w' := by
 have HR0 := M_ hr0;have HC0 := M_ hc0;clear hr0 hc0;have HB := M_ (Below.refl w.heap.size w)
 have H : ((some (([] : List (S31)) : List (S31))).bind fun y119 => (if y119.length + l0.length < 5864062014805 then (some (y119 ++ l0)) else (none))) = some r := h
 clear h;obtain ⟨y119, hy119, H⟩ := ob_ H;(try dsimp only at H);have Ny119 := M_ hy119;clear hy119
 by_cases c2 : y119.length + l0.length < 5864062014805
 ·rw [if_pos c2] at H
  have LMc2 := M_ c2;clear c2;obtain ⟨y122, hy122⟩ : ∃ y_ : List (S31), y_ = (y119 ++ l0) := ⟨_, rfl⟩
  replace H : (some y122) = some r := by first | (rw [hy122]; with_reducible exact H) | (have H2_ := (Option.bind_some _ _).symm.trans H; rw [hy122]; with_reducible exact H2_) | (have H2_ := (Option.bind_some _ _).symm.trans H; with_reducible exact H2_) | with_reducible exact H | (rw [hy122]; exact H) | exact H
  have Ny122 := M_ hy122;clear hy122;obtain rfl := Option.some.inj H
  have he : ∀ W : World, (binOp .eql 24 (.slice A0 l0.length c0) (.slice none 0 0)).run Tryz.prog W = .ok (.bool A0.isNone) W := fun W => Lib.run_eql_slice_nil W 24 31 A0 l0.length c0 0 0 Tryz.underlying24
  cases A0 with
  | none =>
   have hz : l0 = [] := by
    rcases Nat.eq_zero_or_pos l0.length with h0 | h0
    ·exact List.eq_nil_of_length_eq_zero h0
    ·obtain ⟨ad, e, _⟩ := HR0.out.2.2 h0
     cases e
   have hq : y122 = [] := by rw [Ny122.out, Ny119.out, hz]; rfl
   have HQ := M_ hq;clear hq hz Ny122 Ny119 LMc2
   go_enter Tryz.func48, Tryz.ntmps48
   go_wp2
   go_ret
   exact ⟨_, rfl, by rw [HQ.out]; exact Kd.R_nil _ _ _ _ _, bU_ HB⟩
  | some a0 =>
   go_enter Tryz.func48, Tryz.ntmps48
   go_wp2_with (first | ((with_reducible refine gate_dst (N := 5) rfl ?_); refine lt_ k31 31 (N := 5) (([] : List (S31))) [] (Reps.none _ _) ?_; intro v120 w3 ho4 hb hg_ hnew_; clear hg_ hnew_; replace ho4 := rN_ Ny119 ho4; have HO121 := M_ (Kd.R_lower ho4 (bZ_ HB)); replace HB := M_ (bS_ HB hb); clear hb ho4) | ((with_reducible refine gate_builtin (b := .append) (xs := #[.tmp 5, .tmp 6]) rfl ?_); at_builtin; refine Kd.R_append_rows k31 (w0 := w) w.heap.size rfl (.tmp 5) (.tmp 6) 24 31 (.agg #[(.int .i64 0), (.int .i64 0), (.int .i64 0)]) 24 rfl Tryz.underlying24 info31 rfl (by decide) (by omega) v120 y119 l0 _ _ _ (fun _ => True) (fun _ => False) rfl rfl ?aO ?aR (fun _ _ h => h) (fun _ h => h.elim) ?aF ?aB ?aS ?aL ?_; (case aR => exact cU_ (Kd.C_below HR0.out HB.out)); (case aB => exact (bU_ HB)); (case aF => exact (fun _ _ => trivial)); (case aO => exact (rU_ HO121.out)); (case aS => exact (bZ_ HB)); (case aL => have := LMc2.out; omega); intro v123 w5 ho hb hg hat; rw [← Ny122.out] at ho; replace HB := M_ (hb); have HO124 := M_ (ho); clear HO121; clear ho hb hg hat))
   go_ret
   exact ⟨_, eR_, rU_ HO124.out, bU_ HB⟩
 ·rw [if_neg c2] at H
  exact absurd H (by simp)
-- NOT PRINTED: function 97 (reflectlite_ValueOf)

-- NOT PRINTED: function 98 (reflectlite_Swapper)

-- NOT PRINTED: function 118 (sort_insertionSort_func)

-- NOT PRINTED: function 157 (sort_swapRange_func)

-- NOT PRINTED: function 140 (sort_rotate_func)

-- NOT PRINTED: function 119 (sort_symMerge_func)

-- NOT PRINTED: function 99 (sort_stable_func)

-- NOT PRINTED: function 100 (reflectlite_Value_Len)

-- NOT PRINTED: function 78 (sort_SliceStable)

-- XSTB
def impl_sortedNotes_lt (a b : S31) : Bool := decide (a.f1 < b.f1 ∨ (a.f1 = b.f1 ∧ a.f0 < b.f0))
def impl_sortedNotes.f (l0 : List (S31)) : Option (List (S31)) := if l0.length < 5864062014805 then some (Srt.nsort impl_sortedNotes_lt l0) else none
def encN_ (x : S31 × Nat) : List Value := [.int .i64 x.1.f0, .int .i64 x.1.f1, .int .i64 x.1.f2]
def ltN_ (a b : S31 × Nat) : Bool := impl_sortedNotes_lt a.1 b.1
instance : Inhabited (S31) := ⟨z31⟩
theorem swo_ltN : Sort.SWO impl_sortedNotes_lt := by
 refine ⟨fun x => ?_, fun x y z h1 h2 => ?_, fun x y z h1 h2 => ?_⟩ <;> simp only [impl_sortedNotes_lt, decide_eq_true_eq, decide_eq_false_iff_not] at * <;> omega
theorem swo_ltN_ : Sort.SWO ltN_ := ⟨fun x => swo_ltN.irrefl _, fun x y z => swo_ltN.trans _ _ _, fun x y z => swo_ltN.ntrans _ _ _⟩
noncomputable def svT_ : TypeInfo := (Tryz.prog.info? 24).get (by kernel_rfl)
noncomputable def svE_ : TypeInfo := (Tryz.prog.info? 31).get (by kernel_rfl)
theorem svK_ (n : Nat) (h2 : 2 ≤ n) : Lib.swapperK n svE_ 25 = 9 := by
 have a : svE_.hasPointers = false := by kernel_rfl
 have b : svE_.bytes = 24 := by kernel_rfl
 have c : (n == 0) = false := by simp; omega
 have d : (n == 1) = false := by simp; omega
 simp [Lib.swapperK, a, b, c, d]
set_option maxHeartbeats 4000000 in
set_option maxRecDepth 100000 in
theorem noteLess_grows (a b : S31) (W : World) :
  Calls Tryz.prog 46 #[.agg #[.int .i64 a.f0, .int .i64 a.f1, .int .i64 a.f2], .agg #[.int .i64 b.f0, .int .i64 b.f1, .int .i64 b.f2]] W fun e w' => e = .returned (.bool (impl_sortedNotes_lt a b)) ∧ w' = (W.alloc (.cells #[.int .i64 a.f0, .int .i64 a.f1, .int .i64 a.f2] 31)).alloc (.cells #[.int .i64 b.f0, .int .i64 b.f1, .int .i64 b.f2] 31) := by
 have hu31 := Tryz.underlying31
 by_cases h1 : a.f1 = b.f1
 ·have hl : impl_sortedNotes_lt a b = decide (a.f0 < b.f0) := by
   unfold impl_sortedNotes_lt; rw [decide_eq_decide]; omega
  rw [hl]
  clear hl
  go_enter Tryz.func46, Tryz.ntmps46
  go_wp2
  all_goals (go_ret; first | exact ⟨rfl, rfl⟩ | simp_all)
 ·have hl : impl_sortedNotes_lt a b = decide (a.f1 < b.f1) := by
   unfold impl_sortedNotes_lt; rw [decide_eq_decide]; omega
  rw [hl]
  clear hl
  go_enter Tryz.func46, Tryz.ntmps46
  go_wp2
  all_goals (go_ret; first | exact ⟨rfl, rfl⟩ | simp_all)
set_option maxHeartbeats 4000000 in
set_option maxRecDepth 100000 in
theorem less_calls (g c Bs size : Nat) (W : World) (G : Nat → S31) (hs : W.cell? ⟨Bs, 0, none⟩ = some (.slice (some ⟨g, 0, none⟩) size c))
  (hc : ∀ t, t < size → W.cell? ⟨g, t * 3, none⟩ = some (.int .i64 (G t).f0) ∧ W.cell? ⟨g, t * 3 + 1, none⟩ = some (.int .i64 (G t).f1) ∧ W.cell? ⟨g, t * 3 + 2, none⟩ = some (.int .i64 (G t).f2)) (i j : Nat) (hi : i < size) (hj : j < size) (_hsz : size < 4611686018427387904) :
  Calls Tryz.prog 79 #[.int .i64 i, .int .i64 j, .pointer (some ⟨Bs, 0, none⟩)] W fun e w' => e = .returned (.bool (impl_sortedNotes_lt (G i) (G j))) ∧ ∃ q os', w' = Sort.grow (Sort.ahead W q) os' := by
 have hu31 := Tryz.underlying31;obtain ⟨i0, i1, i2⟩ := hc i hi;obtain ⟨j0, j1, j2⟩ := hc j hj;clear hc;generalize G i = a at *;generalize G j = b at *
 have b1 : (0 : Int) ≤ (i : Int) := Int.natCast_nonneg i
 have b2 : (i : Int) < (size : Int) := Int.ofNat_lt.2 hi
 have b3 : (0 : Int) ≤ (j : Int) := Int.natCast_nonneg j
 have b4 : (j : Int) < (size : Int) := Int.ofNat_lt.2 hj
 go_enter Tryz.func79, Tryz.ntmps79
 go_wp2
 go_region_held3 (fun w' => w'.cell? ⟨Bs, 0, none⟩ = some (.slice (some ⟨g, 0, none⟩) size c) ∧ w'.cell? ⟨g, i * 3, none⟩ = some (.int .i64 a.f0) ∧ w'.cell? ⟨g, i * 3 + 1, none⟩ = some (.int .i64 a.f1) ∧ w'.cell? ⟨g, i * 3 + 2, none⟩ = some (.int .i64 a.f2) ∧ w'.cell? ⟨g, j * 3, none⟩ = some (.int .i64 b.f0) ∧ w'.cell? ⟨g, j * 3 + 1, none⟩ = some (.int .i64 b.f1) ∧ w'.cell? ⟨g, j * 3 + 2, none⟩ = some (.int .i64 b.f2)) (go_keep)
  (first | (go_at_call 46; refine (noteLess_grows a b _).mono ?_; rintro e w' ⟨rfl, rfl⟩))
 go_wp2
 go_ret
 refine ⟨rfl, 1, #[.cells #[.int .i64 a.f0, .int .i64 a.f1, .int .i64 a.f2] 31, .cells #[.int .i64 b.f0, .int .i64 b.f1, .int .i64 b.f2] 31], ?_⟩
 show World.drew _ = _
 rw [Sort.alloc_eq_grow, Sort.alloc_eq_grow, Sort.grow_grow]
 rfl
open Go.Sort Go.Proofs Go.Lib in
theorem lessK_ (g c Bs : Nat) (d : Array (S31 × Nat)) (wB : World) (hs : wB.cell? ⟨Bs, 0, none⟩ = some (.slice (some ⟨g, 0, none⟩) d.size c)) (hne : Bs ≠ g) (hBs : Bs < wB.heap.size) (hH : HoldsK encN_ 3 wB g 0 d) (hg : g < wB.heap.size) (hsz : d.size < 4611686018427387904) :
  Stb.LessK Tryz.prog 79 #[.pointer (some ⟨Bs, 0, none⟩)] encN_ 3 ltN_ g 0 d.size wB := by
 intro W dk hW hsd i j hi hj
 have hHk : HoldsK encN_ 3 W g 0 dk := hW.holds hg hH hsd
 refine (less_calls g c Bs d.size W (fun t => dk[t]!.1) ((Stb.cell_step encN_ 3 hW _ hne hBs).trans hs) (fun t ht => ?_) i j hi hj hsz).mono ?_
 ·have h0 := (hHk.cell (i := t) (c := 0) (by omega) (by omega)).1
  have h1 := (hHk.cell (i := t) (c := 1) (by omega) (by omega)).1;have h2 := (hHk.cell (i := t) (c := 2) (by omega) (by omega)).1
  rw [Nat.zero_add] at h0 h1 h2
  exact ⟨h0, h1, h2⟩
 ·rintro e w' ⟨rfl, q, os, rfl⟩
  refine ⟨rfl, q, os, ?_⟩
  unfold sortWorldK
  rw [putRowK_self encN_ 3 _ g 0 dk (holdsK_ahead encN_ 3 W q g 0 dk hHk)]
open Go.Sort Go.Proofs Go.Lib in
theorem holds_of_R {w : World} {base g n c : Nat} {ok : Nat → Prop} {l0 : List (S31)} (h : Kd.R k31 31 w base ok (.slice (some ⟨g, 0, none⟩) n c) l0) : HoldsK encN_ 3 w g 0 l0.zipIdx.toArray := by
 have hC := (Kd.R_reads' h).2.2;obtain ⟨_, inner, hown, _⟩ := h
 rcases hown.2 with ⟨hv, _⟩ | ⟨g', cap, cur, hv, hb, hh, _⟩
 ·cases hv
 injection hv with ha
 injection ha with ha
 injection ha with hg
 subst hg;intro j hj
 have hj' : j < l0.length * 3 := by simpa using hj
 have hq : j / 3 < l0.length := by omega
 refine ⟨?_, blk_frozen hh _⟩
 rw [get_flatK encN_ 3 _ j (by simpa using hj')]
 obtain ⟨ad, e, h0, h1, h2⟩ := at_T31 hC ((j / 3 : Nat) : Int) (by omega) (by omega)
 injection e with e
 subst e
 rw [Int.toNat_natCast, show ∀ g j : Nat, (⟨g, 0, none⟩ : Addr).add j = ⟨g, j, none⟩ from fun g j => by unfold Addr.add; split <;> simp_all] at h0 h1 h2
 have hx : (l0.zipIdx.toArray[j / 3]!).1 = rd_T31 l0 ((j / 3 : Nat) : Int) := by
  rw [getElem!_pos _ (j / 3) (by simpa using hq)]
  unfold rd_T31
  rw [Int.toNat_natCast, List.getD_eq_getElem?_getD, List.getElem?_eq_getElem hq]
  simp
 have hm : j % 3 = 0 ∨ j % 3 = 1 ∨ j % 3 = 2 := by omega
 unfold encN_
 rw [hx, Nat.zero_add]
 generalize rd_T31 l0 ((j / 3 : Nat) : Int) = X at h0 h1 h2 ⊢
 rcases hm with m | m | m
 ·rw [← show j = j / 3 * 3 by omega] at h0; rw [m]; exact h0
 ·rw [← show j = j / 3 * 3 + 1 by omega] at h1; rw [m]; exact h1
 ·rw [← show j = j / 3 * 3 + 2 by omega] at h2; rw [m]; exact h2
theorem take_putCells_id (cur F : Array Value) (h : F.size ≤ cur.size) : (Sort.putCells id 0 F cur).toList.take F.size = F.toList := by
 apply List.ext_getElem?
 intro j
 by_cases hj : j < F.size
 ·rw [List.getElem?_take_of_lt hj, Array.getElem?_toList]
  simp [Sort.putCells, hj, show j < cur.size by omega]
 ·rw [List.getElem?_take_eq_none (by omega), List.getElem?_eq_none (by simp; omega)]
theorem flat_elem (d : Array (S31 × Nat)) (j : Nat) (hj : j < d.size) : (((Sort.flatK encN_ 3 d).toList.drop (j * 3)).take 3) = encN_ d[j]! := by
 apply List.ext_getElem?
 intro t
 by_cases ht : t < 3
 ·have hlt : j * 3 + t < d.size * 3 := by omega
  have h := Sort.get_flatK encN_ 3 d (j * 3 + t) hlt
  rw [show (j * 3 + t) / 3 = j by omega, show (j * 3 + t) % 3 = t by omega] at h
  rw [List.getElem?_take_of_lt ht, List.getElem?_drop, Array.getElem?_toList]
  rw [Array.getElem?_eq_getElem (by rw [Sort.size_flatK]; exact hlt), ← getElem!_pos (Sort.flatK encN_ 3 d) (j * 3 + t) (by rw [Sort.size_flatK]; exact hlt), h]
  have h3 : t < (encN_ d[j]!).length := ht
  rw [List.getElem?_eq_getElem h3, getElem!_pos (encN_ d[j]!) t h3]
 ·rw [List.getElem?_take_eq_none (by omega), List.getElem?_eq_none (by show 3 ≤ t; omega)]
open Go.Sort Go.Proofs Go.Lib in
theorem R_after_sort {wB w' : World} {base g n c : Nat} {ok : Nat → Prop} {l0 : List (S31)} {d' : Array (S31 × Nat)} (h : Kd.R k31 31 wB base ok (.slice (some ⟨g, 0, none⟩) n c) l0) (hs : d'.size = l0.length) (hW : SWK encN_ 3 wB g 0 d' w') :
  Kd.R k31 31 w' base ok (.slice (some ⟨g, 0, none⟩) n c) (d'.toList.map Prod.fst) ∧ wB.grownBy w' (some g) := by
 obtain ⟨q, os, rfl⟩ := hW;obtain ⟨hok, inner, hown, _⟩ := h
 have hlen : (d'.toList.map Prod.fst).length = l0.length := by simp [hs]
 rcases hown.2 with ⟨hv, _⟩ | ⟨g', cap, cur, hv, hb, hh, hl, hcm, hcs, ht⟩
 ·cases hv
 injection hv with ha hn hc
 injection ha with ha
 injection ha with hg
 subst hg; subst hn; subst hc
 have hgs : g < wB.heap.size := (Array.getElem?_eq_some_iff.1 hh).1
 have hFs : (flatK encN_ 3 d').size = l0.length * 3 := by rw [size_flatK, hs]
 have hsz3 : k31.sz = 3 := rfl
 rw [hsz3] at hcs
 have hheap : (sortWorldK encN_ 3 wB g 0 q d' os).heap[g]? = some (.cells (putCells id 0 (flatK encN_ 3 d') cur) 31 (0, 0)) := by
  unfold sortWorldK putRowK
  rw [heap_grow_old _ _ (by simpa using hgs)]
  simp [putRow, mapBlock, Sort.ahead, Array.getElem?_modify, hh, onCells]
 refine ⟨⟨hok, (flatK encN_ 3 d').toList, ⟨?_, .inr ⟨g, c, _, by rw [hlen], hb, hheap, by rw [hlen]; exact hl, hcm, ?_, ?_⟩⟩, ?_, ?_⟩, ?_⟩
 ·rw [hlen, hsz3]; simpa using hFs
 ·rw [hsz3, ← hcs]; simp [putCells]
 ·rw [hlen, hsz3, ← hFs]
  exact take_putCells_id cur _ (by rw [hFs, hcs]; exact Nat.mul_le_mul_right 3 hl)
 ·rw [hlen, hsz3]; simpa using hFs
 ·intro j p hp
  rw [List.getElem?_map] at hp
  have hj : j < d'.size := by
   rcases Nat.lt_or_ge j d'.size with h | h
   ·exact h
   ·rw [List.getElem?_eq_none (by simpa using h)] at hp; cases hp
  rw [List.getElem?_eq_getElem (by simpa using hj)] at hp
  injection hp with hp
  rw [hsz3, flat_elem d' j hj, getElem!_pos d' j hj]
  rw [← hp]
  exact k31_mkM _ _ _ _
 ·refine ⟨rfl, rfl, rfl, ?_, fun k hk hne => ?_⟩
  ·exact (SWK.le ⟨q, os, rfl⟩ : wB.heap.size ≤ (sortWorldK encN_ 3 wB g 0 q d' os).heap.size)
  ·unfold sortWorldK putRowK
   rw [heap_grow_old _ _ (by simpa using hk)]
   have : g ≠ k := fun e => hne (by rw [e])
   simp [putRow, mapBlock, Sort.ahead, Array.getElem?_modify, this]
open Go.Sort Go.Proofs Go.Lib Srt in
theorem sort_call (A : Option Addr) (n c Bs : Nat) (base : Nat) (ok : Nat → Prop) (l0 : List (S31)) (wB : World) (hR : Kd.R k31 31 wB base ok (.slice A n c) l0) (hs : wB.cell? ⟨Bs, 0, none⟩ = some (.slice A n c)) (hne : ∀ g, (Value.slice A n c).ownBlock = some g → Bs ≠ g) (hBs : Bs < wB.heap.size) (hl : l0.length < 5864062014805) :
  Calls Tryz.prog 78 #[.iface 24 (.slice A n c), .func (.func 79) #[] #[.pointer (some ⟨Bs, 0, none⟩)]] wB fun e w' => e = .returned (.tuple #[]) ∧ Kd.R k31 31 w' base ok (.slice A n c) (nsort impl_sortedNotes_lt l0) ∧ (∀ w0 : World, base = w0.heap.size → Below w0.heap.size w0 wB → Below w0.heap.size w0 w') ∧ w'.cell? ⟨Bs, 0, none⟩ = some (.slice A n c) := by
 have hn : n = l0.length := (Kd.R_reads' hR).1
 by_cases h2 : 2 ≤ l0.length
 ·obtain ⟨_, inner, hown, _⟩ := id hR
  rcases hown.2 with ⟨hv, hz⟩ | ⟨g, cap, cur, hv, hb, hh, _⟩
  ·omega
  injection hv with ha _ _
  subst ha
  have hgs : g < wB.heap.size := (Array.getElem?_eq_some_iff.1 hh).1
  have hBg : Bs ≠ g := hne g rfl
  have hz : l0.zipIdx.toArray.size = l0.length := by simp
  have hH := holds_of_R hR
  have hs' : wB.cell? ⟨Bs, 0, none⟩ = some (.slice (some ⟨g, 0, none⟩) l0.zipIdx.toArray.size c) := by rw [hs, hn, hz]
  have hless := lessK_ g c Bs l0.zipIdx.toArray wB hs' hBg hBs hH hgs (by omega)
  have h := Stb.sliceStable_cells Tryz.laysGt8 24 31 svT_ svE_ (by kernel_rfl) (by kernel_rfl) (by kernel_rfl) (by kernel_rfl) 25 (fun _ => by kernel_rfl) encN_ 3 (fun _ => rfl) (by kernel_rfl) (fun _ => by kernel_rfl)
   (fun x v hv => by simp [encN_] at hv; rcases hv with rfl | rfl | rfl <;> rfl) ltN_ Prod.snd swo_ltN_ 79 _
   (enters_of Tryz.func79 (by kernel_rfl) rfl) g 0 c l0.zipIdx.toArray (by omega) (by omega) 117 (by rw [svK_ _ (by omega)]; kernel_rfl) false
   (fun args W => run_callFunc_extern Tryz.func117 (by kernel_rfl) (by kernel_rfl) (by kernel_rfl) (e := Extern.ReflectliteSwapper.swap false) (by kernel_rfl) args W) wB hless hH hgs (zip_inc l0)
  rw [hz] at h
  subst hn;refine h.mono ?_;rintro e w' ⟨he, d', P1, S1, W1⟩
  have hds : d'.size = l0.length := P1.1.trans hz
  have hA := R_after_sort hR hds W1
  rw [stable_list swo_ltN l0 d' P1 S1] at hA
  exact ⟨he, hA.1, fun w0 e0 hB => hB.grown hA.2 hB.size (fun k hk => by injection hk with hk; subst hk; omega), (Stb.cell_step encN_ 3 W1 _ hBg hBs).trans hs⟩
 ·have hnil : nsort impl_sortedNotes_lt l0 = l0 := by
   match l0, h2 with
   | [], _ => rfl
   | [x], _ => rfl
   | _ :: _ :: _, h2 => exact absurd (by simp) h2
  rw [hnil]
  have hn1 : n ≤ 1 := by omega
  have hf : ∃ f, Tryz.prog.funcs.findIdx? (·.name == "internal/reflectlite" ++ ".Swapper$" ++ toString (swapperK n svE_ 25)) = some f := by
   rcases Nat.lt_or_ge n 1 with h | h
   ·obtain rfl : n = 0 := by omega
    exact ⟨109, by kernel_rfl⟩
   ·obtain rfl : n = 1 := by omega
    exact ⟨110, by kernel_rfl⟩
  obtain ⟨f, hf⟩ := hf;have h := Any.sort_SliceStable_tiny Tryz.laysGt8 24 31 svT_ svE_ (by kernel_rfl) (by kernel_rfl) (by kernel_rfl) (by kernel_rfl) 25 (fun _ => by kernel_rfl) A n c hn1 f hf (.func 79) #[] #[.pointer (some ⟨Bs, 0, none⟩)] wB;refine h.mono ?_;rintro e w' ⟨he, os, rfl⟩
  have hb : Below wB.heap.size wB (Sort.grow wB os) := ⟨rfl, rfl, rfl, by rw [Go.Sort.size_grow]; omega, fun k hk => heap_grow_old _ _ hk⟩
  exact ⟨he, rb_ hR hb, fun w0 e0 hB => hB.trans ⟨hb.os, hb.tape, hb.output, hb.size, fun k hk => hb.block k (Nat.lt_of_lt_of_le hk hB.size)⟩, (hb.cell hBs).trans hs⟩
set_option maxHeartbeats 8000000 in
set_option maxRecDepth 100000 in
theorem impl_sortedNotes.calls (A0 : Option Addr) (c0 : Nat) (l0 : List (S31)) (r : List (S31)) (w : World) (hr0 : Kd.C k31 w A0 l0.length l0) (hc0 : l0.length ≤ c0) (h : impl_sortedNotes.f l0 = some r) :
  Calls Tryz.prog 44 #[.slice A0 l0.length c0] w fun e w' => ∃ v0_ : Value, e = .returned (v0_) ∧ Kd.R k31 31 w' w.heap.size (fun _ => True) v0_ r ∧ Below w.heap.size w w' := by
 unfold impl_sortedNotes.f at h
 by_cases hl : l0.length < 5864062014805
 case neg => rw [if_neg hl] at h; cases h
 rw [if_pos hl] at h
 obtain rfl := Option.some.inj h;clear h
 have hcl : clone_Note.f l0 = some l0 := by
  unfold clone_Note.f
  show (if ([] : List (S31)).length + l0.length < 5864062014805 then some ([] ++ l0) else none) = some l0
  rw [if_pos (by simpa using hl), List.nil_append]
 have hc : Calls Tryz.prog 48 #[.slice A0 l0.length c0] w fun e w' => ∃ (A : Option Addr) (n c : Nat), e = .returned (.slice A n c) ∧ Kd.R k31 31 w' w.heap.size (fun _ => True) (.slice A n c) l0 ∧ Below w.heap.size w w' := by
  refine (clone_Note.calls A0 c0 l0 l0 w hr0 hc0 hcl).mono ?_;rintro e w' ⟨v0, rfl, hR, hB⟩;obtain ⟨A, c, rfl, _⟩ := Kd.R_reads hR;exact ⟨A, _, c, rfl, hR, hB⟩
 clear hr0 hcl
 go_enter Tryz.func44, Tryz.ntmps44
 go_wp2_with (first | (go_at_call 48; refine hc.mono ?_; rintro e w1 ⟨A, n, c, rfl, hR, hB⟩; have HR := M_ hR; have HB := M_ hB; clear hR hB) | (go_at_call 78; refine (sort_call A n c w1.heap.size w.heap.size (fun _ => True) l0 (w1.alloc (.cells #[.slice A n c] 24)) (ra_ HR.out _) (by simp) (fun g hg e => by have := Kd.R_lt HR.out g hg; omega) (by simp) hl).mono ?_; rintro e w2 ⟨rfl, hR2, hB2, hc2⟩; have HR2 := M_ hR2; have HB2 := M_ hB2; clear hR2 hB2))
 go_ret
 exact ⟨_, rfl, HR2.out, HB2.out w rfl (ba_ HB.out _)⟩
def impl_SortNotes.f (k : Nat) (l0 : List (S31)) : Option ((List (S31)) × Bool) := if (l0.length : Int) > 30 then (some (([] : List (S31)), false)) else ((impl_sortedNotes.f l0).bind fun t125 => ((impl_scoreOf.f k t125).bind fun bt128 => (some (bt128.1, bt128.2))))
theorem impl_SortNotes.mono : ∀ a0 k, LeO (impl_SortNotes.f k a0) (impl_SortNotes.f (k + 1) a0) := by
 intro a0 k
 unfold impl_SortNotes.f
 have m0_ := @impl_scoreOf.mono;exact mo_
set_option maxHeartbeats 8000000 in
set_option maxRecDepth 100000 in
theorem impl_SortNotes.calls (k : Nat) (A0 : Option Addr) (c0 : Nat) (l0 : List (S31)) (r1 : List (S31)) (r2 : Bool) (w : World) (hr0 : Kd.C k31 w A0 l0.length l0) (hc0 : l0.length ≤ c0) (h : impl_SortNotes.f k l0 = some (r1, r2)) :
  Calls Tryz.prog 7 #[.slice A0 l0.length c0] w fun e w' => ∃ v0_ : Value, e = .returned (.tuple #[v0_, .bool r2]) ∧ Kd.R k31 31 w' w.heap.size (fun _ => True) v0_ r1 ∧ Below w.heap.size w w' := by
 have HR0 := M_ hr0;have HC0 := M_ hc0;clear hr0 hc0;have HB := M_ (Below.refl w.heap.size w)
 have H : (if (l0.length : Int) > 30 then (some (([] : List (S31)), false)) else ((impl_sortedNotes.f l0).bind fun t125 => ((impl_scoreOf.f k t125).bind fun bt128 => (some (bt128.1, bt128.2))))) = some (r1, r2) := h
 clear h
 by_cases c2 : (l0.length : Int) > 30
 ·rw [if_pos c2] at H
  have c2b0 : decide (30 < (l0.length : Int)) = true := decide_eq_true c2
  have c2b1 : decide (30 < l0.length) = true := decide_eq_true (by omega)
  clear c2;simp only [Option.some.injEq, Prod.mk.injEq] at H;obtain ⟨rfl, rfl⟩ := H
  go_enter Tryz.func7, Tryz.ntmps7
  go_wp2
  go_ret2
  exact ⟨_, eR_, by first | exact Kd.R_nil _ _ _ _ _ | exact Kd.N_nil _ _ _ _ _ | exact Kd.V_nil _ _ _ _ _ | exact Kd.Q_nil _ _ _ _ _ | exact Kd.S_nil _ _ _ _ _, bU_ HB⟩
 ·rw [if_neg c2] at H
  have c2b0 : decide (30 < (l0.length : Int)) = false := decide_eq_false c2
  have c2b1 : decide (30 < l0.length) = false := decide_eq_false (by omega)
  clear c2;replace H := Option.bind_eq_some_iff.mp H;obtain ⟨t125, A30, H⟩ := H;(try dsimp only at H);have A3 := M_ A30;clear A30;replace H := Option.bind_eq_some_iff.mp H;obtain ⟨⟨t128, t131⟩, A40, H⟩ := H;replace H : (some (t128, t131)) = some (r1, r2) := H;have A4 := M_ A40;clear A40;simp only [Option.some.injEq, Prod.mk.injEq] at H;obtain ⟨rfl, rfl⟩ := H
  go_enter Tryz.func7, Tryz.ntmps7
  go_wp2_with (first | ((with_reducible refine gc_ 44 ?_); refine gM_ (some 8) Tryz.func44 #[.slice A0 l0.length c0] ?_; (with_reducible refine (impl_sortedNotes.calls _ _ l0 t125 _ ?side1 ?side2 A3.out).mono ?_); (case side1 => exact cU_ HR0.out); (case side2 => exact HC0.out); rintro e w5 ⟨v126, rfl, ho0, hb⟩; refine ⟨_, rfl, ?_⟩; have HO127 := M_ (Kd.R_lower ho0 (bZ_ HB)); replace HB := M_ (bS_ HB hb); clear hb ho0; obtain ⟨Ao6, co6, eo6⟩ := Kd.R_slice HO127.out; subst eo6) | ((with_reducible refine gc_ 43 ?_); refine gM_ (some 9) Tryz.func43 #[.slice Ao6 t125.length co6] ?_; (with_reducible refine (impl_scoreOf.calls k (fun k_ => some k_ = (.slice Ao6 t125.length co6 : Value).ownBlock) (.slice Ao6 t125.length co6) t125 t128 t131 w _ ?side1 ?side2 A4.out).mono ?_); (case side1 => exact bU_ HB); (case side2 => exact Kd.R_tight rfl HO127.out); rintro e w7 ⟨v129, rfl, ho0, hb, hkp⟩; refine ⟨_, rfl, ?_⟩; have HO130 := M_ (rm_ (ok' := fun k_ => True) ho0 (fun k_ hk_ => trivial)); replace HB := M_ (hb); clear HO127; (try clear hb); (try clear hkp); (try clear ho0)))
  go_ret2
  exact ⟨_, eR_, rU_ HO130.out, bU_ HB⟩
def laws_pSameNotes.l0 : Nat → List (S31) → List (S31) → Int → Int → Option (Bool)
 | 0, _, _, _, _ => none
 | k + 1, x0, x1, x12, x13 => if x13 < x12 then (if 0 ≤ x13 then (if x13 < (x0.length : Int) then (if x13 < (x1.length : Int) then (if (!(((rd_T31 x0 x13).f0) == ((rd_T31 x1 x13).f0)) || (!(((rd_T31 x0 x13).f1) == ((rd_T31 x1 x13).f1)) || (!(((rd_T31 x0 x13).f2) == ((rd_T31 x1 x13).f2))))) = true then (some false) else (laws_pSameNotes.l0 k x0 x1 x12 (wrap64 (x13 + 1)))) else (none)) else (none)) else (none)) else (some true)
def laws_pSameNotes.f (k : Nat) (l0 : List (S31)) (l1 : List (S31)) : Option (Bool) := if (l0.length : Int) = (l1.length : Int) then (laws_pSameNotes.l0 k l0 l1 (l0.length : Int) 0) else (some false)
theorem laws_pSameNotes.mono_l : ∀ k, (∀ y0 y1 y2 y3, LeO (laws_pSameNotes.l0 k y0 y1 y2 y3) (laws_pSameNotes.l0 (k + 1) y0 y1 y2 y3))
 | 0 => fun _ _ _ _ r h => by simp [laws_pSameNotes.l0] at h
 | k + 1 => by
  have ih0 := laws_pSameNotes.mono_l k
  ·intro y0 y1 y2 y3
   unfold laws_pSameNotes.l0
   exact mo_
theorem laws_pSameNotes.mono : ∀ a0 a1 k, LeO (laws_pSameNotes.f k a0 a1) (laws_pSameNotes.f (k + 1) a0 a1) := by
 intro a0 a1 k;have ih0 := laws_pSameNotes.mono_l k
 unfold laws_pSameNotes.f
 exact mo_
set_option maxHeartbeats 8000000 in
set_option maxRecDepth 100000 in
theorem laws_pSameNotes.calls (k : Nat) (A0 : Option Addr) (c0 : Nat) (l0 : List (S31)) (A1 : Option Addr) (c1 : Nat) (l1 : List (S31)) (r : Bool) (w : World) (hr0 : Kd.C k31 w A0 l0.length l0) (hc0 : l0.length ≤ c0) (hr1 : Kd.C k31 w A1 l1.length l1) (hc1 : l1.length ≤ c1) (h : laws_pSameNotes.f k l0 l1 = some r) :
  Calls Tryz.prog 9 #[.slice A0 l0.length c0, .slice A1 l1.length c1] w fun e w' => e = .returned (.bool r) ∧ Drawn0 w w' := by
 have hu31 := Tryz.underlying31;have HR0 := M_ hr0;have HC0 := M_ hc0;clear hr0 hc0;have HR1 := M_ hr1;have HC1 := M_ hc1;clear hr1 hc1
 have H : (if (l0.length : Int) = (l1.length : Int) then (laws_pSameNotes.l0 k l0 l1 (l0.length : Int) 0) else (some false)) = some r := h
 clear h
 by_cases c3 : (l0.length : Int) = (l1.length : Int)
 ·rw [if_pos c3] at H
  have c3b0 : ((l0.length : Int) == (l1.length : Int)) = true := beq_iff_eq.mpr c3
  have c3b1 : ((l0.length : Int) != (l1.length : Int)) = false := bne_eq_false_iff_eq.mpr c3
  have c3b2 : (l0.length == l1.length) = true := by first | simpa using c3 | (simp at c3 ⊢; omega)
  clear c3
  have H' := M_ H
  clear H
  go_enter Tryz.func9, Tryz.ntmps9
  go_wp2
  repeat (go_quiet (fail); try go_wp2)
  go_loopg [13] k (fun kq v13 w' => ∃ (x13_1 : Int), v13 = .int .i64 x13_1 ∧ Aside0 (laws_pSameNotes.l0 kq l0 l1 (l0.length : Int) x13_1 = some r) ∧ Aside0 (kq ≤ k) ∧ Drawn0 w w')
  case atStart => exact ⟨(0), eD_, H', ⟨Nat.le_refl _⟩, by repeat (first | exact Drawn0.refl _ | apply Drawn0.step)⟩
  case round =>
   clear H';obtain ⟨x13_1, rfl, HA, HK1, ⟨m1, rfl⟩⟩ := hrel
   cases gk with
   | zero => exact absurd HA.out (by simp [laws_pSameNotes.l0])
   | succ k1 =>
    have H := HA.out;clear HA;simp only [laws_pSameNotes.l0] at H
    by_cases c4 : x13_1 < (l0.length : Int)
    ·rw [if_pos c4] at H
     have c4b0 : decide (x13_1 < (l0.length : Int)) = true := decide_eq_true c4
     clear c4
     by_cases c5 : 0 ≤ x13_1
     ·rw [if_pos c5] at H
      have c5b0 : decide (0 ≤ x13_1) = true := decide_eq_true c5
      clear c5
      by_cases c6 : x13_1 < (l0.length : Int)
      ·rw [if_pos c6] at H
       have c6b0 : decide (x13_1 < (l0.length : Int)) = true := decide_eq_true c6
       clear c6
       by_cases c7 : x13_1 < (l1.length : Int)
       ·rw [if_pos c7] at H
        have c7b0 : decide (x13_1 < (l1.length : Int)) = true := decide_eq_true c7
        clear c7
        by_cases c8 : (!(((rd_T31 l0 x13_1).f0) == ((rd_T31 l1 x13_1).f0)) || (!(((rd_T31 l0 x13_1).f1) == ((rd_T31 l1 x13_1).f1)) || (!(((rd_T31 l0 x13_1).f2) == ((rd_T31 l1 x13_1).f2))))) = true
        focus
         rw [if_pos c8] at H
         have c8b0 : (!(((rd_T31 l0 x13_1).f0) == ((rd_T31 l1 x13_1).f0)) || (!(((rd_T31 l0 x13_1).f1) == ((rd_T31 l1 x13_1).f1)) || (!(((rd_T31 l0 x13_1).f2) == ((rd_T31 l1 x13_1).f2))))) = true := c8
         clear c8;obtain rfl := Option.some.inj H
        rotate_left
        focus
         rw [if_neg c8] at H
         have c8b0 : (!(((rd_T31 l0 x13_1).f0) == ((rd_T31 l1 x13_1).f0)) || (!(((rd_T31 l0 x13_1).f1) == ((rd_T31 l1 x13_1).f1)) || (!(((rd_T31 l0 x13_1).f2) == ((rd_T31 l1 x13_1).f2))))) = false := by simpa using c8
         clear c8
         have H' := M_ H
         clear H
        rotate_left
        all_goals
         have p132 : 0 ≤ (x13_1 : Int) := dT_
         have q132 : x13_1 < (l0.length : Int) := dT_
         obtain ⟨ad132, e132, hx132_0, hx132_1, hx132_2⟩ := at_T31 HR0.out x13_1 p132 q132;cases e132;replace p132 := eq_true p132;replace q132 := eq_true q132
         have p133 : 0 ≤ (x13_1 : Int) := dT_
         have q133 : x13_1 < (l1.length : Int) := dT_
         obtain ⟨ad133, e133, hx133_0, hx133_1, hx133_2⟩ := at_T31 HR1.out x13_1 p133 q133;cases e133;replace p133 := eq_true p133;replace q133 := eq_true q133
         go_wp2
         repeat (go_quiet (fail); try go_wp2)
        ·go_ret
         exact ⟨by first | rfl | (simp; done) | (simp [*]; done), by repeat (first | exact Drawn0.refl _ | apply Drawn0.step)⟩
        ·go_roundg k1
         case measure => have := HK1.out; omega
         case rel => exact ⟨(wrap64 (x13_1 + 1)), eD_, H', ⟨by have := HK1.out; omega⟩, by repeat (first | exact Drawn0.refl _ | apply Drawn0.step)⟩
       ·rw [if_neg c7] at H
        exact absurd H (by simp)
      ·rw [if_neg c6] at H
       exact absurd H (by simp)
     ·rw [if_neg c5] at H
      exact absurd H (by simp)
    ·rw [if_neg c4] at H
     have c4b0 : decide (x13_1 < (l0.length : Int)) = false := decide_eq_false c4
     clear c4;obtain rfl := Option.some.inj H
     go_wp2
     repeat (go_quiet (fail); try go_wp2)
     go_ret
     exact ⟨by first | rfl | (simp; done) | (simp [*]; done), by repeat (first | exact Drawn0.refl _ | apply Drawn0.step)⟩
 ·rw [if_neg c3] at H
  have c3b0 : ((l0.length : Int) == (l1.length : Int)) = false := beq_eq_false_iff_ne.mpr c3
  have c3b1 : ((l0.length : Int) != (l1.length : Int)) = true := bne_iff_ne.mpr c3
  have c3b2 : (l0.length == l1.length) = false := by first | simpa using c3 | (simp at c3 ⊢; omega)
  obtain rfl := Option.some.inj H
  go_enter Tryz.func9, Tryz.ntmps9
  go_wp2
  repeat (go_quiet (fail); try go_wp2)
  go_ret
  exact ⟨by first | rfl | (simp; done) | (simp [*]; done), by repeat (first | exact Drawn0.refl _ | apply Drawn0.step)⟩
-- NOT PRINTED: function 146 (cmp_isNaN_int)

-- NOT PRINTED: function 126 (cmp_Less_int)

-- NOT PRINTED: function 120 (slices_insertionSortOrdered_int)

-- NOT PRINTED: function 141 (slices_siftDownOrdered_int)

-- NOT PRINTED: function 121 (slices_heapSortOrdered_int)

-- NOT PRINTED: function 129 (bits_Len32)

-- NOT PRINTED: function 130 (bits_Len64)

-- NOT PRINTED: function 102 (bits_Len)

-- NOT PRINTED: function 142 (slices_nextPowerOfTwo)

-- NOT PRINTED: function 143 (slices_xorshift_Next)

-- NOT PRINTED: function 122 (slices_breakPatternsOrdered_int)

-- NOT PRINTED: function 158 (slices_order2Ordered_int)

-- NOT PRINTED: function 145 (slices_medianOrdered_int)

-- NOT PRINTED: function 144 (slices_medianAdjacentOrdered_int)

-- NOT PRINTED: function 123 (slices_choosePivotOrdered_int)

-- NOT PRINTED: function 124 (slices_reverseRangeOrdered_int)

-- NOT PRINTED: function 125 (slices_partialInsertionSortOrdered_int)

-- NOT PRINTED: function 127 (slices_partitionEqualOrdered_int)

-- NOT PRINTED: function 128 (slices_partitionOrdered_int)

-- NOT PRINTED: function 101 (slices_pdqsortOrdered_int)

-- NOT PRINTED: function 82 (slices_Sort_int_int)

-- XNAME sort_Ints sort_Ints
-- XSHELF
theorem own_shrink {w : World} {base g n c : Nat} {e : TypeId} {size : Nat} {xs : List Value} (h : w.ownsRow base e size (.slice (some ⟨g, 0, none⟩) n c) n xs) (m : Nat) (hm : m ≤ n) : w.ownsRow base e size (.slice (some ⟨g, 0, none⟩) m c) m (xs.take (m * size)) := by
 have hmul : m * size ≤ n * size := Nat.mul_le_mul_right _ hm
 rcases h.2 with ⟨hv, _⟩ | ⟨g', cap, cur, hv, hb, hh, hl, hcm, hcs, ht⟩
 ·cases hv
 injection hv with ha _ hc
 injection ha with ha
 injection ha with hg
 subst hg; subst hc;refine ⟨by rw [List.length_take, h.1]; omega, .inr ⟨g, c, cur, rfl, hb, hh, by omega, hcm, hcs, ?_⟩⟩
 rw [← ht, List.take_take, Nat.min_eq_left hmul]
def sort_Ints.f (l0 : List Int) : Option (List Int) := if l0.length < 4611686018427387904 then some (l0.mergeSort fun x y => decide (x ≤ y)) else none
set_option maxHeartbeats 8000000 in
open Go.Sort in
theorem sort_Ints.calls (P0_ : Nat → Prop) (u9000_ : Value) (l0 : List Int) (r1 : List Int) (w0 w : World) (hB : Below w0.heap.size w0 w) (ho0 : Kd.R (Kd.int .i64) 3 w w0.heap.size P0_ u9000_ l0) (h : sort_Ints.f l0 = some r1) :
  Calls Tryz.prog 51 #[u9000_] w fun e w' => e = .returned (.tuple #[]) ∧ Kd.R (Kd.int .i64) 3 w' w0.heap.size (fun k_ => (P0_ k_ ∨ w.heap.size ≤ k_)) u9000_ r1 ∧ Below w0.heap.size w0 w' ∧ Kept w w' (fun k_ => P0_ k_) := by
 unfold sort_Ints.f at h
 by_cases hl : l0.length < 4611686018427387904
 case neg => rw [if_neg hl] at h; cases h
 rw [if_pos hl] at h
 obtain rfl := Option.some.inj h;clear h;have hown := Kd.own_of_R (h1 := fun _ => rfl) ho0
 rcases hown.2 with ⟨rfl, hz⟩ | ⟨g, cap, cur, rfl, hg, hh, hn, hm, hsz, ht⟩
 ·have e0 : l0 = [] := List.eq_nil_of_length_eq_zero hz
  subst e0;refine (Tryz.sort_Ints_none none 0 w).mono ?_;rintro e w' ⟨rfl, rfl⟩;exact ⟨rfl, by rw [List.mergeSort_nil]; exact Kd.R_nil _ _ _ _ _, hB, Kept.refl _ _⟩
 ·have hP := ho0.1 g (by simp [Value.ownBlock])
  rw [Nat.mul_one] at ht
  refine (Tryz.sort_Ints g 0 cap l0 w (holds_of_blockI hh ht) (blk_lt hh) hl).mono ?_;rintro e w' ⟨rfl, n, os, rfl⟩
  have hlen : (l0.mergeSort fun x y => decide (x ≤ y)).length = l0.length := List.length_mergeSort _
  have hg2 := grownBy_sortedI (w := w) (g := g) (n := n) (os := os) (l0.mergeSort fun x y => decide (x ≤ y)).toArray;have ho := ownsRow_sortedI (w := w) (n := n) (os := os) hlen hg hh hn hm hsz
  rw [← hlen] at ho
  refine ⟨rfl, ?_, hB.grown hg2 hB.size (fun k hk => by injection hk with hk; subst hk; exact hg), Kept.of_grown hg2 (Kept.refl w _) (fun k hk => by injection hk with hk; subst hk; exact .inl hP)⟩
  rw [← hlen]
  exact Kd.R_of_own (h1 := fun _ => rfl) ho (fun k hk => by simp [Value.ownBlock] at hk; subst hk; exact .inl hP)
end Go.Proofs.YtfpfjnmjekjnhaaGreatDoor.PFnScores
