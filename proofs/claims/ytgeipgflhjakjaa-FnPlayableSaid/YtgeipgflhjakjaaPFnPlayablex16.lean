-- by wip/xprint.py, over the kit's printer
import Derived.Test.YtgeipgflhjakjaaPFnPlayablex0
import Derived.Test.YtgeipgflhjakjaaPFnPlayablex2
import Derived.Test.YtgeipgflhjakjaaPFnPlayablex6
import Derived.Test.YtgeipgflhjakjaaPFnPlayablex7
import Derived.Test.YtgeipgflhjakjaaPFnPlayablex15
import Derived.Carry
import Derived.Maps.OwnOps
import Derived.Maps.OwnSet
import Derived.Maps.Views
namespace Go.Proofs.Ytgeipgflhjakjaa.PFnPlayable
open Go.RowKit Go.Proofs.YtgeipgflhjakjaaW.PrintWords Go.Proofs.YtgeipgflhjakjaaW.PrintLast Go.Proofs.YtgeipgflhjakjaaW.PrintMore
attribute [local go_sem] max2_int min2_int max_two min_two max_three min_three max_four min_four   -- for this text's walks alone
set_option linter.unusedVariables false
set_option linter.unusedSimpArgs false

def spec_DrawMissingPitches.f (k : Nat) (l0 : List Int) : Option (List Int × Int × (List (S80))) := (newCur.f l0).bind fun bt498 => ((spec_l1Cur_scoreFor.f k bt498.1 bt498.2.1 bt498.2.2).bind fun bt502 => (some (bt502.1, bt502.2.1, bt502.2.2.1)))
theorem spec_DrawMissingPitches.mono : ∀ a0 k, LeO (spec_DrawMissingPitches.f k a0) (spec_DrawMissingPitches.f (k + 1) a0) := by
 intro a0 k
 unfold spec_DrawMissingPitches.f
 have m0_ := @spec_l1Cur_scoreFor.mono;exact mo_
set_option maxHeartbeats 8000000 in
set_option maxRecDepth 100000 in
theorem spec_DrawMissingPitches.calls (k : Nat) (A0 : Option Addr) (c0 : Nat) (l0 : List Int) (r1 : List Int) (r2 : Int) (r3 : List (S80)) (w : World) (hr0 : Kd.C (Kd.int .u8) w A0 l0.length l0) (hc0 : l0.length ≤ c0) (h : spec_DrawMissingPitches.f k l0 = some (r1, r2, r3)) :
  Calls Try.prog 108 #[.slice A0 l0.length c0] w fun e w' => ∃ v0_ v2_ : Value, e = .returned (.tuple #[.agg #[v0_, .int .i64 r2], v2_]) ∧ Kd.R (Kd.int .i64) 3 w' w.heap.size (fun _ => True) v0_ r1 ∧ Kd.R k80 80 w' w.heap.size (fun _ => True) v2_ r3 ∧ Below w.heap.size w w' := by
 have hu58 := Try.underlying58;have HR0 := M_ hr0;have HC0 := M_ hc0;clear hr0 hc0;have HB := M_ (Below.refl w.heap.size w)
 have H : ((newCur.f l0).bind fun bt498 => ((spec_l1Cur_scoreFor.f k bt498.1 bt498.2.1 bt498.2.2).bind fun bt502 => (some (bt502.1, bt502.2.1, bt502.2.2.1)))) = some (r1, r2, r3) := h
 clear h;replace H := Option.bind_eq_some_iff.mp H;obtain ⟨⟨t498, t499, t500⟩, A20, H⟩ := H;(try dsimp only at H);have A2 := M_ A20;clear A20;replace H := Option.bind_eq_some_iff.mp H;obtain ⟨⟨t502, t505, t506, t509, t510⟩, A30, H⟩ := H;replace H : (some (t502, t505, t506)) = some (r1, r2, r3) := H;have A3 := M_ A30;clear A30;simp only [Option.some.injEq, Prod.mk.injEq] at H;obtain ⟨rfl, rfl, rfl⟩ := H
 go_enter Try.func108, Try.ntmps108
 go_wp2_with (first | ((with_reducible refine gate_dst (N := 2) rfl ?_); refine bx_ (N := 2) (cs := #[.slice none 0 0, .int .i64 0]) (t := 58) ?_; intro gb497 hg w4 hbox hb; have BK497 := M_ (hbox); have GW497 := M_ (gw_ HB hg); have GE497 := M_ (gw_ HB hg); replace HB := M_ (bS_ HB hb); clear hb hbox hg) | ((with_reducible refine gate_dst (N := 7) rfl ?_); refine bx_ (N := 7) (cs := #[.slice A0 l0.length c0, .int .i64 0, .int .u64 0]) (t := 86) ?_; intro g501 hg w5 hbox hb2; have hb := bS_ HB hb2; have hi := newCur_is A2.out (by exact HR0.out) hbox (by rw [hg]; exact (bZ_ HB)); clear hg hbox; replace HB := M_ (hb); have HI501 := M_ (hi); have NB501_497 := M_ (IsS86.ne_blk hi (kb_ BK497 hb2) (by decide)); have NB497_501 := M_ (Ne.symm (IsS86.ne_blk hi (kb_ BK497 hb2) (by decide))); replace BK497 := M_ (kb_ BK497 hb2); (try clear hb); (try clear hb2); (try clear hk); (try clear hi)) | ((with_reducible refine gc_ 130 ?_); refine gM_ (some 9) Try.func130 #[.pointer (some ⟨g501, 0, none⟩)] ?_; (with_reducible refine (spec_l1Cur_scoreFor.calls k g501 t498 t499 t500 t502 t505 t506 t509 t510 w _ ?side1 ?side2 A3.out).mono ?_); (case side1 => exact iU_ HI501); (case side2 => exact bU_ HB); rintro e w6 ⟨v503, v507, rfl, ho0, ho1, hi, hb, hk⟩; refine ⟨_, rfl, ?_⟩; replace BK497 := M_ (kk_ hk BK497 NB497_501); have HO504 := M_ (Kd.R_lower ho0 (bZ_ HB)); have HO508 := M_ (Kd.R_lower ho1 (bZ_ HB)); replace HB := M_ (hb); replace HI501 := M_ (hi); clear hb hk hi ho0 ho1; obtain ⟨Ao7, co7, eo7⟩ := Kd.R_slice HO504.out; subst eo7; have hnb8 := NB497_501.out; have hnc8 := NB501_497.out; obtain ⟨hcz9_0, hcz9_1, hfz9_0, hfz9_1⟩ := bq2_ BK497))
 refine bodyPost_ret (results_ct rfl _ _ gb497 58 #[.slice Ao7 t502.length co7, .int .i64 t505] (0, 0) _ rfl (by (with_reducible repeat (first | refine kn_ ?_ _ | refine kd_ ?_ | refine ka_ ?_ _)); refine blk_put (cs := #[.slice Ao7 t502.length co7, .int .i64 0]) ?_ 1 _ rfl; (with_reducible repeat (first | refine kn_ ?_ _ | refine kd_ ?_ | refine ka_ ?_ _)); refine blk_put (cs := #[.slice none 0 0, .int .i64 0]) ?_ 0 _ rfl; (with_reducible repeat (first | refine kn_ ?_ _ | refine kd_ ?_ | refine ka_ ?_ _)); exact BK497.out) Try.underlying58 rfl (by kernel_rfl)) rfl ?_;exact ⟨_, _, eR_, by (with_reducible repeat (first | apply ra_ | apply rn_ | apply rd_)); exact rm_ (Kd.R_far (p := ⟨gb497, 1, none⟩) (Kd.R_far (p := ⟨gb497, 0, none⟩) (rt_ HO504.out BK497.out (by decide)) (fun _ hk => hk.2) (.slice Ao7 t502.length co7)) (fun _ hk => hk.2) (.int .i64 t505)) (fun _ hk => trivial), by (with_reducible repeat (first | apply ra_ | apply rn_ | apply rd_)); exact rm_ (Kd.R_far (p := ⟨gb497, 1, none⟩) (Kd.R_far (p := ⟨gb497, 0, none⟩) (rt_ HO508.out BK497.out (by decide)) (fun _ hk => hk.2) (.slice Ao7 t502.length co7)) (fun _ hk => hk.2) (.int .i64 t505)) (fun _ hk => trivial), bU_ HB⟩
def spec_DrawPlayablePart.f (k : Nat) (l0 : List Int) : Option (List Int × Int × (List (S80))) := (spec_DrawMissingPitches.f k l0).bind fun bt512 => (some (bt512.1, bt512.2.1, bt512.2.2))
theorem spec_DrawPlayablePart.mono : ∀ a0 k, LeO (spec_DrawPlayablePart.f k a0) (spec_DrawPlayablePart.f (k + 1) a0) := by
 intro a0 k
 unfold spec_DrawPlayablePart.f
 have m0_ := @spec_DrawMissingPitches.mono;exact mo_
set_option maxHeartbeats 8000000 in
set_option maxRecDepth 100000 in
theorem spec_DrawPlayablePart.calls (k : Nat) (A0 : Option Addr) (c0 : Nat) (l0 : List Int) (r1 : List Int) (r2 : Int) (r3 : List (S80)) (w : World) (hr0 : Kd.C (Kd.int .u8) w A0 l0.length l0) (hc0 : l0.length ≤ c0) (h : spec_DrawPlayablePart.f k l0 = some (r1, r2, r3)) :
  Calls Try.prog 50 #[.slice A0 l0.length c0] w fun e w' => ∃ v0_ v2_ : Value, e = .returned (.tuple #[.agg #[v0_, .int .i64 r2], v2_]) ∧ Kd.R (Kd.int .i64) 3 w' w.heap.size (fun _ => True) v0_ r1 ∧ Kd.R k80 80 w' w.heap.size (fun _ => True) v2_ r3 ∧ Below w.heap.size w w' := by
 have hu58 := Try.underlying58;have HR0 := M_ hr0;have HC0 := M_ hc0;clear hr0 hc0;have HB := M_ (Below.refl w.heap.size w)
 have H : ((spec_DrawMissingPitches.f k l0).bind fun bt512 => (some (bt512.1, bt512.2.1, bt512.2.2))) = some (r1, r2, r3) := h
 clear h;replace H := Option.bind_eq_some_iff.mp H;obtain ⟨⟨t512, t515, t516⟩, A20, H⟩ := H;replace H : (some (t512, t515, t516)) = some (r1, r2, r3) := H;have A2 := M_ A20;clear A20;simp only [Option.some.injEq, Prod.mk.injEq] at H;obtain ⟨rfl, rfl, rfl⟩ := H
 go_enter Try.func50, Try.ntmps50
 go_wp2_with (first | ((with_reducible refine gate_dst (N := 2) rfl ?_); refine bx_ (N := 2) (cs := #[.slice none 0 0, .int .i64 0]) (t := 58) ?_; intro gb511 hg w3 hbox hb; have BK511 := M_ (hbox); have GW511 := M_ (gw_ HB hg); have GE511 := M_ (gw_ HB hg); replace HB := M_ (bS_ HB hb); clear hb hbox hg) | ((with_reducible refine gc_ 108 ?_); refine gM_ (some 5) Try.func108 #[.slice A0 l0.length c0] ?_; (with_reducible refine (spec_DrawMissingPitches.calls k _ _ l0 t512 t515 t516 _ ?side1 ?side2 A2.out).mono ?_); (case side1 => exact cU_ (Kd.C_below HR0.out HB.out)); (case side2 => exact HC0.out); rintro e w4 ⟨v513, v517, rfl, ho0, ho1, hb⟩; refine ⟨_, rfl, ?_⟩; have HO514 := M_ (Kd.R_lower ho0 (bZ_ HB)); have HO518 := M_ (Kd.R_lower ho1 (bZ_ HB)); replace BK511 := M_ (kb_ BK511 hb); replace HB := M_ (bS_ HB hb); clear hb ho0 ho1; obtain ⟨Ao5, co5, eo5⟩ := Kd.R_slice HO514.out; subst eo5; obtain ⟨hcz6_0, hcz6_1, hfz6_0, hfz6_1⟩ := bq2_ BK511))
 refine bodyPost_ret (results_ct rfl _ _ gb511 58 #[.slice Ao5 t512.length co5, .int .i64 t515] (0, 0) _ rfl (by (with_reducible repeat (first | refine kn_ ?_ _ | refine kd_ ?_ | refine ka_ ?_ _)); refine blk_put (cs := #[.slice Ao5 t512.length co5, .int .i64 0]) ?_ 1 _ rfl; (with_reducible repeat (first | refine kn_ ?_ _ | refine kd_ ?_ | refine ka_ ?_ _)); refine blk_put (cs := #[.slice none 0 0, .int .i64 0]) ?_ 0 _ rfl; (with_reducible repeat (first | refine kn_ ?_ _ | refine kd_ ?_ | refine ka_ ?_ _)); exact BK511.out) Try.underlying58 rfl (by kernel_rfl)) rfl ?_;exact ⟨_, _, eR_, by (with_reducible repeat (first | apply ra_ | apply rn_ | apply rd_)); exact rm_ (Kd.R_far (p := ⟨gb511, 1, none⟩) (Kd.R_far (p := ⟨gb511, 0, none⟩) (rt_ HO514.out BK511.out (by decide)) (fun _ hk => hk.2) (.slice Ao5 t512.length co5)) (fun _ hk => hk.2) (.int .i64 t515)) (fun _ hk => trivial), by (with_reducible repeat (first | apply ra_ | apply rn_ | apply rd_)); exact rm_ (Kd.R_far (p := ⟨gb511, 1, none⟩) (Kd.R_far (p := ⟨gb511, 0, none⟩) (rt_ HO518.out BK511.out (by decide)) (fun _ hk => hk.2) (.slice Ao5 t512.length co5)) (fun _ hk => hk.2) (.int .i64 t515)) (fun _ hk => trivial), bU_ HB⟩
def inR_ (x : Int) : Prop := -9223372036854775808 ≤ x ∧ x ≤ 9223372036854775807
instance (x : Int) : Decidable (inR_ x) := by unfold inR_; exact inferInstance
theorem inR_wf {x : Int} (h : inR_ x) : (Lit.int .i64 x).wf = true := by
 unfold inR_ at h
 simp [Lit.wf]
 first | exact h | (simp [IntKind.fits]; omega) | (unfold IntKind.inRange; simp; omega) | decide
def putM_ (m : Int → Option Int) (k v : Int) : Int → Option Int := fun x => if x = k then some v else m x
theorem law_map_ : Maps.Keyed Try.prog 3 := Maps.int_keyed Try.underlying3
/-- Block b of w is a map of at most n entries that reads as m. -/
def MapIs_ (w : World) (b n : Nat) (m : Int → Option Int) : Prop := ∃ D : DataW Unit, w.ownsMap Try.prog 3 (plainElem Try.prog 3) b n D ∧ ∀ x : Int, inR_ x → Maps.has D (.int .i64 x) = (m x).isSome ∧ D.atKey (.int .i64 x) (.lit (.int .i64 0)) = .lit (.int .i64 ((m x).getD 0))
theorem mapIs_made (w : World) : MapIs_ (w.alloc (.map #[] 0)) w.heap.size 0 (fun _ => none) := ⟨_, World.ownsMap_made w _ _ _, fun x _ => ⟨rfl, rfl⟩⟩
theorem mapIs_lt {w : World} {b n : Nat} {m : Int → Option Int} (h : MapIs_ w b n m) : b < w.heap.size := by obtain ⟨D, h, _⟩ := h; exact h.lt
theorem mapIs_kept {w w' : World} {b n : Nat} {m : Int → Option Int} {row : Option Nat} (h : MapIs_ w b n m) (hg : w.grownBy w' row) (hne : some b ≠ row) : MapIs_ w' b n m := by obtain ⟨D, h, k⟩ := h; exact ⟨D, h.kept hg hne, k⟩
theorem mapIs_below {w w' : World} {b n : Nat} {m : Int → Option Int} (h : MapIs_ w b n m) (hb : Below w.heap.size w w') : MapIs_ w' b n m := mapIs_kept h (grown_of_below hb none) (by simp)
theorem mapIs_drewN {w : World} {b n : Nat} {m : Int → Option Int} (h : MapIs_ w b n m) (k : Nat) : MapIs_ (w.drewN k) b n m := mapIs_below h (bn_ (Below.refl _ _) k)
theorem mapIs_alloc {w : World} {b n : Nat} {m : Int → Option Int} (h : MapIs_ w b n m) (o : Obj) : MapIs_ (w.alloc o) b n m := mapIs_below h (ba_ (Below.refl _ _) o)
theorem mapIs_set {w : World} {b n g j : Nat} {m : Int → Option Int} (h : MapIs_ w b n m) (hne : b ≠ g) (v : Value) : MapIs_ (w.setCell ⟨g, j, none⟩ v) b n m := by obtain ⟨D, h, k⟩ := h; exact ⟨D, h.setCell (a := ⟨g, j, none⟩) hne v, k⟩
theorem mapIs_blk {w : World} {b n : Nat} {m : Int → Option Int} (h : MapIs_ w b n m) : ∃ es cl, w.heap[b]? = some (.map es cl) := by obtain ⟨D, ⟨es, cl, hb, _⟩, _⟩ := h; exact ⟨es, cl, hb⟩
theorem wpList_map_look {w : World} {ops : Array Oper} {rest : List Oper} {o : Oper} {a : Act} {Q : Exit → Act → World → Prop} (hg : o.guard = none) (mo x : Operand) (hop : o.op = Op.lookup 113 mo x true) (b n : Nat) (m : Int → Option Int)
  (hm : a.eval mo = .map (some b)) (hM : MapIs_ w b n m) (key : Int) (hx : a.eval x = .int .i64 key) (hw : inR_ key)
  (hK : wpList Try.prog ops Q rest (a.put o.dst (.tuple #[.int .i64 ((m key).getD 0), .bool (m key).isSome])) w) : wpList Try.prog ops Q (o :: rest) a w := by
 refine wpList_plain hg fun K' hK' => ?_
 obtain ⟨D, h, hf⟩ := hM;obtain ⟨v, ps, hrun, hv⟩ := h.look_ok law_map_ Try.underlying113 (Try.zeroValue3 w) (plainElem_int Try.underlying3 (a := 0) (by decide)) (Maps.keyOf_int_mk Try.underlying3 (inR_wf hw));obtain ⟨f1, f2⟩ := hf key hw;obtain ⟨c, rfl, hc, _⟩ := plainElem_int_inv Try.underlying3 hv
 rw [f2] at hc
 simp only [Prod.mk.injEq, DataW.lit.injEq, Lit.int.injEq, true_and] at hc
 rw [f1] at hrun
 unfold Oper.wp
 simp [execOp, hop, hm, hx, hrun, Result.andThen]
 rw [← hc.1]
 exact hK' _ _ hK
theorem wpList_map_put {w : World} {ops : Array Oper} {rest : List Oper} {o : Oper} {a : Act} {Q : Exit → Act → World → Prop} (hg : o.guard = none) (mo x v : Operand) (hop : o.op = Op.mapUpdate 113 mo x v) (b n : Nat) (m : Int → Option Int)
  (hm : a.eval mo = .map (some b)) (hM : MapIs_ w b n m) (hn : n < maxLen) (key val : Int) (hx : a.eval x = .int .i64 key) (hv : a.eval v = .int .i64 val) (hw : inR_ key) (hwv : inR_ val)
  (hK : ∀ w', MapIs_ w' b (n + 1) (putM_ m key val) → w.grownBy w' (some b) → wpList Try.prog ops Q rest (a.put o.dst undef) w') : wpList Try.prog ops Q (o :: rest) a w := by
 obtain ⟨D, h, hf⟩ := hM;refine wpList_mapUpdate_own (H := Unit) w hg mo x v 113 hop 3 3 law_map_ Try.underlying113 (plainElem Try.prog 3) b n D hm h hn _ _ (.int .i64 key) hx hv (Maps.keyOf_int_mk Try.underlying3 (inR_wf hw)) (.lit (.int .i64 val)) [] (plainElem_int Try.underlying3 (inR_wf hwv)) (fun w' h' g' => hK w' ⟨_, h', fun y hy => ?_⟩ g');obtain ⟨f1, f2⟩ := hf y hy
 unfold putM_
 by_cases e : y = key
 ·subst e
  rw [if_pos rfl]
  exact ⟨Maps.has_put_same h.isMap (law_map_.key (Maps.keyOf_int_mk Try.underlying3 (inR_wf hw))) _, Maps.atKey_put_same h.isMap (law_map_.key (Maps.keyOf_int_mk Try.underlying3 (inR_wf hw))) _ _⟩
 ·rw [if_neg e]
  have hne : (Lit.int .i64 y) ≠ Lit.int .i64 key := fun q => e (by injection q)
  exact ⟨(Maps.has_put_other hne _).trans f1, (Maps.atKey_put_other hne _ _).trans f2⟩
theorem rowM_ {α : Type} {d : Kd α} {e : Nat} {w w' : World} {base b : Nat} {ok : Nat → Prop} {v : Value} {xs : List α} (h : d.R e w base ok v xs) (hb : ∃ es cl, w.heap[b]? = some (.map es cl)) (hg : w.grownBy w' (some b)) : d.R e w' base ok v xs := by
 obtain ⟨es, cl, hb⟩ := hb;refine rm_ (Kd.R_step (Kd.R_bound h) (fun k hk hlt => hg.block k hlt (fun e => ?_))) (fun k hk => hk.1);obtain rfl := Option.some.inj e;obtain ⟨_, _, _, q, hq, cells', hc⟩ := hk
 rw [hb] at hc
 cases hc
theorem rowNe_ {α : Type} {d : Kd α} {e : Nat} {w : World} {base b : Nat} {ok : Nat → Prop} {v : Value} {xs : List α} (h : d.R e w base ok v xs) (hb : ∃ es cl, w.heap[b]? = some (.map es cl)) : some b ≠ v.ownBlock := by
 obtain ⟨es, cl, hb⟩ := hb;intro e;obtain ⟨_, _, _, q, hq, cells', hc⟩ := (Kd.R_bound h).1 b e.symm
 rw [hb] at hc
 cases hc
mutual
def impl_PlayablePart.j0 : Nat → List (S80) → Bool → List Int → Int → Option ((List (S80)) × Bool)
 | 0, _, _, _, _ => none
 | k + 1, x1, x19, x520000, x520001 => if x19 = true then (some (([] : List (S80)), false)) else (impl_PlayablePart.l0 k (([] : List (S80))) (fun _ => none) x1 (x1.length : Int) 0 x520000 x520001)
def impl_PlayablePart.l0 : Nat → List (S80) → (Int → Option Int) → List (S80) → Int → Int → List Int → Int → Option ((List (S80)) × Bool)
 | 0, _, _, _, _, _, _, _ => none
 | k + 1, x6, x7, x22, x23, x24, x520000, x520001 => if x24 < x23 then (if 0 ≤ x24 then (if x24 < (x22.length : Int) then (if inR_ ((rd_T80 x22 x24).f0) ∧ inR_ ((rd_T80 x22 x24).f1) then ((slices_Contains_int_int.f k x520000 ((rd_T80 x22 x24).f0)).bind fun t527 => (if t527 = true then (if (x7 ((rd_T80 x22 x24).f0)).isSome = true then (if (wrap64 (((rd_T80 x22 x24).f1) - ((x7 ((rd_T80 x22 x24).f0)).getD 0))) < x520001 then (impl_PlayablePart.l0 k x6 x7 x22 x23 (wrap64 (x24 + 1)) x520000 x520001) else (if x6.length < 5864062014805 then (impl_PlayablePart.l0 k (x6 ++ [(⟨(rd_T80 x22 x24).f0, (rd_T80 x22 x24).f1, (rd_T80 x22 x24).f2⟩ : S80)]) (putM_ x7 ((rd_T80 x22 x24).f0) ((rd_T80 x22 x24).f1)) x22 x23 (wrap64 (x24 + 1)) x520000 x520001) else (none))) else (if x6.length < 5864062014805 then (impl_PlayablePart.l0 k (x6 ++ [(⟨(rd_T80 x22 x24).f0, (rd_T80 x22 x24).f1, (rd_T80 x22 x24).f2⟩ : S80)]) (putM_ x7 ((rd_T80 x22 x24).f0) ((rd_T80 x22 x24).f1)) x22 x23 (wrap64 (x24 + 1)) x520000 x520001) else (none))) else (impl_PlayablePart.l0 k x6 x7 x22 x23 (wrap64 (x24 + 1)) x520000 x520001))) else none) else (none)) else (none)) else (some (x6, true))
end
def impl_PlayablePart.f (k : Nat) (l0_0 : List Int) (a0_1 : Int) (l1 : List (S80)) : Option ((List (S80)) × Bool) := (impl_IsInstrument.f k l0_0 a0_1).bind fun t520 => (if t520 = true then ((impl_IsScore.f k l1).bind fun t521 => (impl_PlayablePart.j0 k l1 (!t521) l0_0 a0_1)) else (impl_PlayablePart.j0 k l1 true l0_0 a0_1))
theorem impl_PlayablePart.mono_l : ∀ k, (∀ y0 y1 y2 y3, LeO (impl_PlayablePart.j0 k y0 y1 y2 y3) (impl_PlayablePart.j0 (k + 1) y0 y1 y2 y3)) ∧ (∀ y0 y1 y2 y3 y4 y5 y6, LeO (impl_PlayablePart.l0 k y0 y1 y2 y3 y4 y5 y6) (impl_PlayablePart.l0 (k + 1) y0 y1 y2 y3 y4 y5 y6))
 | 0 => ⟨fun _ _ _ _ r h => by simp [impl_PlayablePart.j0] at h, fun _ _ _ _ _ _ _ r h => by simp [impl_PlayablePart.l0] at h⟩
 | k + 1 => by
  obtain ⟨ih0, ih1⟩ := impl_PlayablePart.mono_l k;refine ⟨?_, ?_⟩
  ·intro y0 y1 y2 y3
   unfold impl_PlayablePart.j0
   have m0_ := @impl_IsInstrument.mono;have m1_ := @impl_IsScore.mono;have m2_ := @slices_Contains_int_int.mono;exact mo_
  ·intro y0 y1 y2 y3 y4 y5 y6
   unfold impl_PlayablePart.l0
   have m0_ := @impl_IsInstrument.mono;have m1_ := @impl_IsScore.mono;have m2_ := @slices_Contains_int_int.mono;exact mo_
theorem impl_PlayablePart.mono : ∀ a0 a1 a2 k, LeO (impl_PlayablePart.f k a0 a1 a2) (impl_PlayablePart.f (k + 1) a0 a1 a2) := by
 intro a0 a1 a2 k;obtain ⟨ih0, ih1⟩ := impl_PlayablePart.mono_l k
 unfold impl_PlayablePart.f
 have m0_ := @impl_IsInstrument.mono;have m1_ := @impl_IsScore.mono;have m2_ := @slices_Contains_int_int.mono;exact mo_
set_option maxHeartbeats 8000000 in
set_option maxRecDepth 100000 in
theorem impl_PlayablePart.calls (k : Nat) (A0_0 : Option Addr) (c0_0 : Nat) (l0_0 : List Int) (a0_1 : Int) (A1 : Option Addr) (c1 : Nat) (l1 : List (S80)) (r1 : List (S80)) (r2 : Bool) (w : World) (hr0_0 : Kd.C (Kd.int .i64) w A0_0 l0_0.length l0_0) (hc0_0 : l0_0.length ≤ c0_0) (hr1 : Kd.C k80 w A1 l1.length l1) (hc1 : l1.length ≤ c1) (h : impl_PlayablePart.f k l0_0 a0_1 l1 = some (r1, r2)) :
  Calls Try.prog 51 #[.agg #[.slice A0_0 l0_0.length c0_0, .int .i64 a0_1], .slice A1 l1.length c1] w fun e w' => ∃ v0_ : Value, e = .returned (.tuple #[v0_, .bool r2]) ∧ Kd.R k80 80 w' w.heap.size (fun _ => True) v0_ r1 ∧ Below w.heap.size w w' := by
 have hu58 := Try.underlying58;have hu80 := Try.underlying80;have HR0_0 := M_ hr0_0;have HC0_0 := M_ hc0_0;clear hr0_0 hc0_0;have HR1 := M_ hr1;have HC1 := M_ hc1;clear hr1 hc1;have HB := M_ (Below.refl w.heap.size w)
 have H : ((impl_IsInstrument.f k l0_0 a0_1).bind fun t520 => (if t520 = true then ((impl_IsScore.f k l1).bind fun t521 => (impl_PlayablePart.j0 k l1 (!t521) l0_0 a0_1)) else (impl_PlayablePart.j0 k l1 true l0_0 a0_1))) = some (r1, r2) := h
 clear h;have HC3 := M_ H;clear H;have hmm := @run_makeMap Try.prog
 go_enter Try.func51, Try.ntmps51
 go_upto_region 1 with (first | ((with_reducible refine gate_dst (N := 2) rfl ?_); refine bx_ (N := 2) (cs := #[.slice A0_0 l0_0.length c0_0, .int .i64 a0_1]) (t := 58) ?_; intro gb221 hg w4 hbox hb; have BK221 := M_ (hbox); have GW221 := M_ (gw_ HB hg); have GE221 := M_ (gw_ HB hg); replace HB := M_ (bS_ HB hb); clear hb hbox hg))
 (try simp only [Act.put, la_, lb_, lc_])
 go_cut [19] (fun v19 wc => ∃ (kq : Nat) (x19_2 : Bool), v19 = .bool x19_2 ∧ Aside0 (impl_PlayablePart.j0 kq l1 x19_2 l0_0 a0_1 = some (r1, r2)) ∧ Aside0 (kq ≤ k) ∧ Aside0 (wc.heap[gb221]? = some (.cells #[(.slice A0_0 l0_0.length c0_0), .int .i64 a0_1] 58 (0, 0))) ∧ Aside0 (Below w.heap.size w wc))
 case first =>
  have H := HC3.out;clear HC3;replace H := Option.bind_eq_some_iff.mp H;obtain ⟨t520, A50, H⟩ := H;(try dsimp only at H);have A5 := M_ A50;clear A50
  by_cases c6 : t520 = true
  focus
   subst c6
   rw [if_pos rfl] at H
   replace H := Option.bind_eq_some_iff.mp H;obtain ⟨t521, A70, H⟩ := H;(try dsimp only at H);have A7 := M_ A70;clear A70
  rotate_left
  focus
   replace c6 := Bool.eq_false_iff.mpr c6
   subst c6
   rw [if_neg (show ¬ (false = true) by decide)] at H
  rotate_left
  all_goals
   have H' := M_ H
   clear H;obtain ⟨hcz8_0, hcz8_1, hfz8_0, hfz8_1⟩ := bq2_ BK221
   go_wp2_with (first | ((with_reducible refine gc_ 101 ?_); refine gM_ (some 13) Try.func101 #[.agg #[.slice A0_0 l0_0.length c0_0, .int .i64 a0_1]] ?_; (with_reducible refine (impl_IsInstrument.calls k _ _ l0_0 a0_1 _ _ ?side1 ?side2 A5.out).mono ?_); (case side1 => exact cU_ (Kd.C_below HR0_0.out HB.out)); (case side2 => exact HC0_0.out); rintro e w9 ⟨rfl, hb⟩; refine ⟨_, rfl, ?_⟩; replace BK221 := M_ (kb_ BK221 hb); replace HB := M_ (bS_ HB hb); clear hb) | (go_at_call 90; (with_reducible refine (impl_IsScore.calls k _ _ l1 t521 _ ?side1 ?side2 A7.out).mono ?_); (case side1 => exact cU_ (Kd.C_below HR1.out HB.out)); (case side2 => exact HC1.out); rintro e w10 ⟨rfl, hb⟩; replace BK221 := M_ (kb_ BK221 hb); replace HB := M_ (bS_ HB hb); clear hb))
   go_meet
  ·case rel => exact ⟨_, (!t521), eD_, H', ⟨by first | omega | exact Nat.le_refl _⟩, ⟨kU_ BK221⟩, ⟨bU_ HB⟩⟩
  ·case rel => exact ⟨_, (true), eD_, H', ⟨by first | omega | exact Nat.le_refl _⟩, ⟨kU_ BK221⟩, ⟨bU_ HB⟩⟩
 case rest =>
  clear HC3;obtain ⟨kq, x19_2, rfl, HA, HJ2, BK221, HB⟩ := hcut
  cases kq with
  | zero => exact absurd HA.out (by simp [impl_PlayablePart.j0])
  | succ kj2 =>
   have H := HA.out;clear HA;simp only [impl_PlayablePart.j0] at H
   by_cases c13 : x19_2 = true
   focus
    subst c13
    rw [if_pos rfl] at H
    simp only [Option.some.injEq, Prod.mk.injEq] at H;obtain ⟨rfl, rfl⟩ := H
   rotate_left
   focus
    replace c13 := Bool.eq_false_iff.mpr c13
    subst c13
    rw [if_neg (show ¬ (false = true) by decide)] at H
    obtain ⟨y522, hy522⟩ : ∃ y_ : List (S80), y_ = (([] : List (S80))) := ⟨_, rfl⟩
    replace H : (impl_PlayablePart.l0 kj2 y522 (fun _ => none) l1 (l1.length : Int) 0 l0_0 a0_1) = some (r1, r2) := by first | (rw [hy522]; with_reducible exact H) | (have H2_ := (Option.bind_some _ _).symm.trans H; rw [hy522]; with_reducible exact H2_) | (have H2_ := (Option.bind_some _ _).symm.trans H; with_reducible exact H2_) | with_reducible exact H | (rw [hy522]; exact H) | exact H
    have Ny522 := M_ hy522;clear hy522
    have H' := M_ H
    clear H
   rotate_left
   all_goals
    go_wp2_with (first | ((with_reducible refine gate_dst (N := 20) rfl ?_); refine lt_ k80 80 (N := 20) (([] : List (S80))) [] (Reps.none _ _) ?_; intro v523 w14 ho15 hb hg_ hnew_; clear hg_ hnew_; replace ho15 := rN_ Ny522 ho15; have HO524 := M_ (Kd.R_lower ho15 (bZ_ HB)); replace BK221 := M_ (kb_ BK221 hb); replace HB := M_ (bS_ HB hb); clear hb ho15))
   ·go_ret2
    exact ⟨_, eR_, by first | exact Kd.R_nil _ _ _ _ _ | exact Kd.N_nil _ _ _ _ _ | exact Kd.V_nil _ _ _ _ _ | exact Kd.Q_nil _ _ _ _ _ | exact Kd.S_nil _ _ _ _ _, bU_ HB⟩
   ·have HGM := M_ (show w.heap.size ≤ w14.heap.size from below_size HB.out);have HM := M_ (mapIs_made w14);have NM221 := M_ (show gb221 ≠ w14.heap.size from Nat.ne_of_lt (blk_lt BK221.out))
    go_loopg [6, 24] kj2 (fun kq v6 v24 w' => ∃ (x6_2 : List (S80)) (x7_2 : Int → Option Int) (x24_2 : Int), v24 = .int .i64 x24_2 ∧ Aside0 (impl_PlayablePart.l0 kq x6_2 x7_2 l1 (l1.length : Int) x24_2 l0_0 a0_1 = some (r1, r2)) ∧ Aside0 (kq ≤ kj2) ∧ Aside0 (MapIs_ w' w14.heap.size x6_2.length x7_2) ∧ Aside0 (Kd.R k80 80 w' w.heap.size (fun _ => True) v6 x6_2) ∧ Aside0 (w'.heap[gb221]? = some (.cells #[(.slice A0_0 l0_0.length c0_0), .int .i64 a0_1] 58 (0, 0))) ∧ Aside0 (Below w.heap.size w w'))
    case atStart => exact ⟨(y522), (fun _ => none), (0), eD_, H', ⟨Nat.le_refl _⟩, ⟨by rw [Ny522.out]; exact HM.out⟩, ⟨rU_ HO524.out⟩, ⟨kU_ BK221⟩, ⟨bU_ HB⟩⟩
    case round =>
     clear H' HM;obtain ⟨x6_2, x7_2, x24_2, rfl, HA, HK2, HM, HO_6, BK221, HB⟩ := hrel
     cases gk with
     | zero => exact absurd HA.out (by simp [impl_PlayablePart.l0])
     | succ k2 =>
      have H := HA.out;clear HA;simp only [impl_PlayablePart.l0] at H
      by_cases c16 : x24_2 < (l1.length : Int)
      ·rw [if_pos c16] at H
       have c16b0 : decide (x24_2 < (l1.length : Int)) = true := decide_eq_true c16
       clear c16
       by_cases c17 : 0 ≤ x24_2
       ·rw [if_pos c17] at H
        have c17b0 : decide (0 ≤ x24_2) = true := decide_eq_true c17
        clear c17
        by_cases c18 : x24_2 < (l1.length : Int)
        ·rw [if_pos c18] at H
         have c18b0 : decide (x24_2 < (l1.length : Int)) = true := decide_eq_true c18
         clear c18
         by_cases cR : inR_ ((rd_T80 l1 x24_2).f0) ∧ inR_ ((rd_T80 l1 x24_2).f1)
         case neg => (rw [if_neg cR] at H; exact absurd H (by simp))
         rw [if_pos cR] at H
         obtain ⟨cRa, cRb⟩ := cR;replace H := Option.bind_eq_some_iff.mp H;obtain ⟨t527, A190, H⟩ := H;(try dsimp only at H);have A19 := M_ A190;clear A190
         by_cases c20 : t527 = true
         ·subst c20
          rw [if_pos rfl] at H
          by_cases c21 : (x7_2 ((rd_T80 l1 x24_2).f0)).isSome = true
          ·rw [if_pos c21] at H
           have c21m : (x7_2 ((rd_T80 l1 x24_2).f0)).isSome = true := c21
           have c21b0 : decide ((x7_2 ((rd_T80 l1 x24_2).f0)).isSome = true) = true := decide_eq_true c21
           clear c21
           by_cases c22 : (wrap64 (((rd_T80 l1 x24_2).f1) - ((x7_2 ((rd_T80 l1 x24_2).f0)).getD 0))) < a0_1
           ·rw [if_pos c22] at H
            have c22b0 : decide ((wrap64 (((rd_T80 l1 x24_2).f1) - ((x7_2 ((rd_T80 l1 x24_2).f0)).getD 0))) < a0_1) = true := decide_eq_true c22
            clear c22
            have H' := M_ H
            clear H
            have p525 : 0 ≤ (x24_2 : Int) := dT_
            have q525 : x24_2 < (l1.length : Int) := dT_
            obtain ⟨ad525, e525, hx525_0, hx525_1, hx525_2⟩ := at_T80 HR1.out x24_2 p525 q525;cases e525;replace hx525_0 := (HB.out.cell (World.block_lt_of_cell? w _ hx525_0)).trans hx525_0;replace hx525_1 := (HB.out.cell (World.block_lt_of_cell? w _ hx525_1)).trans hx525_1;replace hx525_2 := (HB.out.cell (World.block_lt_of_cell? w _ hx525_2)).trans hx525_2;replace p525 := eq_true p525;replace q525 := eq_true q525
            go_wp2_with (first | ((with_reducible refine gate_dst (N := 9) rfl ?_); refine bx_ (N := 9) (cs := #[.int .i64 0, .int .i64 0, .int .i64 0]) (t := 80) ?_; intro gb228 hg w23 hbox hb; have nM_ := M_ (mapIs_below HM.out hb); have NBM := M_ (show w14.heap.size ≠ gb228 by rw [hg]; exact Nat.ne_of_lt (mapIs_lt HM.out)); clear HM; have HM := nM_; clear nM_; replace HO_6 := M_ (rb_ (Kd.R_elderB (rU_ HO_6.out) gb228 (Nat.le_of_eq hg.symm)) hb); have BK228 := M_ (hbox); have GW228 := M_ (gw_ HB hg); have GE228 := M_ (gw_ HB hg); replace HB := M_ (bS_ HB hb); have NB519_526 := M_ (nb_ BK221 hg); have NB526_519 := M_ ((by rw [hg]; exact Nat.ne_of_gt (blk_lt (kU_ BK221)) : gb228 ≠ gb221)); replace BK221 := M_ (kb_ BK221 hb); clear hb hbox hg; have hnb24 := NB526_519.out; have hnc24 := NB519_526.out; obtain ⟨hcz25_0, hcz25_1, hcz25_2, hfz25_0, hfz25_1, hfz25_2⟩ := bq3_ BK228; obtain ⟨hcz26_0, hcz26_1, hfz26_0, hfz26_1⟩ := bq2_ BK221) | (at_lookup; refine wpList_map_look rfl _ _ rfl w14.heap.size x6_2.length x7_2 rfl (by repeat (first | (with_reducible first | exact HM.out | refine mapIs_set ?_ NBM.out _ | apply mapIs_drewN | apply mapIs_alloc) | exact HM.out)) ((rd_T80 l1 x24_2).f0) rfl cRa ?_) | ((with_reducible refine gc_ 103 ?_); refine gM_ (some 39) Try.func103 #[.slice A0_0 l0_0.length c0_0, .int .i64 ((rd_T80 l1 x24_2).f0)] ?_; (with_reducible refine (slices_Contains_int_int.calls k2 _ _ l0_0 ((rd_T80 l1 x24_2).f0) true _ ?side1 ?side2 A19.out).mono ?_); (case side1 => exact Kd.C_below HR0_0.out (bU_ HB)); (case side2 => exact HC0_0.out); rintro e w' ⟨rfl, ⟨nd, rfl⟩⟩; refine ⟨_, rfl, ?_⟩))
            go_roundg k2
            case measure => have := HJ2.out; have := HK2.out; omega
            case rel => exact ⟨(x6_2), (x7_2), (wrap64 (x24_2 + 1)), eD_, H', ⟨by have := HJ2.out; have := HK2.out; omega⟩, ⟨by repeat (first | (with_reducible first | exact HM.out | refine mapIs_set ?_ NBM.out _ | apply mapIs_drewN | apply mapIs_alloc) | exact HM.out)⟩, ⟨by (with_reducible repeat (first | apply ra_ | apply rn_ | apply rd_)); exact rm_ (Kd.R_far (p := ⟨gb228, 2, none⟩) (Kd.R_far (p := ⟨gb228, 1, none⟩) (Kd.R_far (p := ⟨gb228, 0, none⟩) (rm_ HO_6.out (fun k_ hk => (⟨hk, hk.2⟩ : _ ∧ k_ ≠ gb228))) (fun _ hk => hk.2) (.int .i64 ((rd_T80 l1 x24_2).f0))) (fun _ hk => hk.2) (.int .i64 ((rd_T80 l1 x24_2).f1))) (fun _ hk => hk.2) (.int .i64 ((rd_T80 l1 x24_2).f2))) (fun _ hk => trivial)⟩, ⟨by (with_reducible repeat (first | refine kn_ ?_ _ | refine kd_ ?_ | refine ka_ ?_ _)); refine blk_far ?_ NB519_526.out _; (with_reducible repeat (first | refine kn_ ?_ _ | refine kd_ ?_ | refine ka_ ?_ _)); refine blk_far ?_ NB519_526.out _; (with_reducible repeat (first | refine kn_ ?_ _ | refine kd_ ?_ | refine ka_ ?_ _)); refine blk_far ?_ NB519_526.out _; (with_reducible repeat (first | refine kn_ ?_ _ | refine kd_ ?_ | refine ka_ ?_ _)); exact BK221.out⟩, ⟨bU_ HB⟩⟩
           ·rw [if_neg c22] at H
            have c22b0 : decide ((wrap64 (((rd_T80 l1 x24_2).f1) - ((x7_2 ((rd_T80 l1 x24_2).f0)).getD 0))) < a0_1) = false := decide_eq_false c22
            clear c22
            by_cases c27 : x6_2.length < 5864062014805
            ·rw [if_pos c27] at H
             have LMc27 := M_ c27;clear c27;obtain ⟨y528, hy528⟩ : ∃ y_ : List (S80), y_ = (x6_2 ++ [(⟨(rd_T80 l1 x24_2).f0, (rd_T80 l1 x24_2).f1, (rd_T80 l1 x24_2).f2⟩ : S80)]) := ⟨_, rfl⟩
             replace H : (impl_PlayablePart.l0 k2 y528 (putM_ x7_2 ((rd_T80 l1 x24_2).f0) ((rd_T80 l1 x24_2).f1)) l1 (l1.length : Int) (wrap64 (x24_2 + 1)) l0_0 a0_1) = some (r1, r2) := by first | (rw [hy528]; with_reducible exact H) | (have H2_ := (Option.bind_some _ _).symm.trans H; rw [hy528]; with_reducible exact H2_) | (have H2_ := (Option.bind_some _ _).symm.trans H; with_reducible exact H2_) | with_reducible exact H | (rw [hy528]; exact H) | exact H
             have Ny528 := M_ hy528;clear hy528
             have H' := M_ H
             clear H
             have p525 : 0 ≤ (x24_2 : Int) := dT_
             have q525 : x24_2 < (l1.length : Int) := dT_
             obtain ⟨ad525, e525, hx525_0, hx525_1, hx525_2⟩ := at_T80 HR1.out x24_2 p525 q525;cases e525;replace hx525_0 := (HB.out.cell (World.block_lt_of_cell? w _ hx525_0)).trans hx525_0;replace hx525_1 := (HB.out.cell (World.block_lt_of_cell? w _ hx525_1)).trans hx525_1;replace hx525_2 := (HB.out.cell (World.block_lt_of_cell? w _ hx525_2)).trans hx525_2;replace p525 := eq_true p525;replace q525 := eq_true q525
             go_wp2_with (first | ((with_reducible refine gate_dst (N := 9) rfl ?_); refine bx_ (N := 9) (cs := #[.int .i64 0, .int .i64 0, .int .i64 0]) (t := 80) ?_; intro gb228 hg w28 hbox hb; have nM_ := M_ (mapIs_below HM.out hb); have NBM := M_ (show w14.heap.size ≠ gb228 by rw [hg]; exact Nat.ne_of_lt (mapIs_lt HM.out)); clear HM; have HM := nM_; clear nM_; replace HO_6 := M_ (rb_ (Kd.R_elderB (rU_ HO_6.out) gb228 (Nat.le_of_eq hg.symm)) hb); have BK228 := M_ (hbox); have GW228 := M_ (gw_ HB hg); have GE228 := M_ (gw_ HB hg); replace HB := M_ (bS_ HB hb); have NB519_526 := M_ (nb_ BK221 hg); have NB526_519 := M_ ((by rw [hg]; exact Nat.ne_of_gt (blk_lt (kU_ BK221)) : gb228 ≠ gb221)); replace BK221 := M_ (kb_ BK221 hb); clear hb hbox hg; have hnb29 := NB526_519.out; have hnc29 := NB519_526.out; obtain ⟨hcz30_0, hcz30_1, hcz30_2, hfz30_0, hfz30_1, hfz30_2⟩ := bq3_ BK228; obtain ⟨hcz31_0, hcz31_1, hfz31_0, hfz31_1⟩ := bq2_ BK221) | ((with_reducible refine gc_ 103 ?_); refine gM_ (some 39) Try.func103 #[.slice A0_0 l0_0.length c0_0, .int .i64 ((rd_T80 l1 x24_2).f0)] ?_; (with_reducible refine (slices_Contains_int_int.calls k2 _ _ l0_0 ((rd_T80 l1 x24_2).f0) true _ ?side1 ?side2 A19.out).mono ?_); (case side1 => exact Kd.C_below HR0_0.out (bU_ HB)); (case side2 => exact HC0_0.out); rintro e w' ⟨rfl, ⟨nd, rfl⟩⟩; refine ⟨_, rfl, ?_⟩) | (at_lookup; refine wpList_map_look rfl _ _ rfl w14.heap.size x6_2.length x7_2 rfl (by repeat (first | (with_reducible first | exact HM.out | refine mapIs_set ?_ NBM.out _ | apply mapIs_drewN | apply mapIs_alloc) | exact HM.out)) ((rd_T80 l1 x24_2).f0) rfl cRa ?_) | (at_mapUpdate; refine wpList_map_put rfl _ _ _ rfl w14.heap.size x6_2.length x7_2 rfl (by repeat (first | (with_reducible first | exact HM.out | refine mapIs_set ?_ NBM.out _ | apply mapIs_drewN | apply mapIs_alloc) | exact HM.out)) (by have := LMc27.out; unfold maxLen; omega) ((rd_T80 l1 x24_2).f0) ((rd_T80 l1 x24_2).f1) rfl rfl cRa cRb ?_; intro w88 hm8 hg8; have n0_ := M_ (blk_grown (g := gb221) (o := .cells #[.slice A0_0 l0_0.length c0_0, .int .i64 a0_1] 58 (0, 0)) (by (with_reducible repeat (first | refine kn_ ?_ _ | refine kd_ ?_ | refine ka_ ?_ _)); refine blk_far ?_ NB519_526.out _; (with_reducible repeat (first | refine kn_ ?_ _ | refine kd_ ?_ | refine ka_ ?_ _)); refine blk_far ?_ NB519_526.out _; (with_reducible repeat (first | refine kn_ ?_ _ | refine kd_ ?_ | refine ka_ ?_ _)); refine blk_far ?_ NB519_526.out _; (with_reducible repeat (first | refine kn_ ?_ _ | refine kd_ ?_ | refine ka_ ?_ _)); exact BK221.out) hg8 (fun e_ => NM221.out (Option.some.inj e_))); have n1_ := M_ (blk_grown (g := gb228) (o := .cells #[.int .i64 ((rd_T80 l1 x24_2).f0), .int .i64 ((rd_T80 l1 x24_2).f1), .int .i64 ((rd_T80 l1 x24_2).f2)] 80 (0, 0)) (by (with_reducible repeat (first | refine kn_ ?_ _ | refine kd_ ?_ | refine ka_ ?_ _)); refine blk_put (cs := #[.int .i64 ((rd_T80 l1 x24_2).f0), .int .i64 ((rd_T80 l1 x24_2).f1), .int .i64 0]) ?_ 2 _ rfl; (with_reducible repeat (first | refine kn_ ?_ _ | refine kd_ ?_ | refine ka_ ?_ _)); refine blk_put (cs := #[.int .i64 ((rd_T80 l1 x24_2).f0), .int .i64 0, .int .i64 0]) ?_ 1 _ rfl; (with_reducible repeat (first | refine kn_ ?_ _ | refine kd_ ?_ | refine ka_ ?_ _)); refine blk_put (cs := #[.int .i64 0, .int .i64 0, .int .i64 0]) ?_ 0 _ rfl; (with_reducible repeat (first | refine kn_ ?_ _ | refine kd_ ?_ | refine ka_ ?_ _)); exact BK228.out) hg8 (fun e_ => NBM.out (Option.some.inj e_).symm)); have n2_ := M_ (show Below w.heap.size w w88 from Below.grown (row := some w14.heap.size) (w := _) (by exact (bU_ HB)) hg8 (by exact below_size (bU_ HB)) (fun k_ e_ => by injection e_ with e_; rw [← e_]; exact HGM.out)); have n3_ := M_ (show Kd.R k80 80 w88 w.heap.size (fun k_ => k_ ≠ gb228) u6 x6_2 from by (refine rowM_ (b := w14.heap.size) ?q1_ ?q2_ hg8; (case q1_ => exact (rU_ (rm_ (Kd.R_far (p := ⟨gb228, 2, none⟩) (Kd.R_far (p := ⟨gb228, 1, none⟩) (Kd.R_far (p := ⟨gb228, 0, none⟩) (rm_ HO_6.out (fun k_ hk => (⟨hk, hk.2⟩ : _ ∧ k_ ≠ gb228))) (fun _ hk => hk.2) (.int .i64 ((rd_T80 l1 x24_2).f0))) (fun _ hk => hk.2) (.int .i64 ((rd_T80 l1 x24_2).f1))) (fun _ hk => hk.2) (.int .i64 ((rd_T80 l1 x24_2).f2))) (fun _ hk => hk.1.2)))); (case q2_ => exact mapIs_blk (n := x6_2.length) (m := x7_2) (by repeat (first | (with_reducible first | exact HM.out | refine mapIs_set ?_ NBM.out _ | apply mapIs_drewN | apply mapIs_alloc) | exact HM.out))))); clear BK221; clear BK228; clear HB; clear HO_6; clear HM; have BK221 := n0_; have BK228 := n1_; have HB := n2_; have HO_6 := n3_; have HM := M_ hm8; clear n0_ n1_ n2_ n3_; clear hg8 hm8; have hcm_0 := bc0_ BK228; have hcm_1 := bc1_ BK228; have hcm_2 := bc2_ BK228; have hfm_0 := bf_ BK228 0; have hfm_1 := bf_ BK228 1; have hfm_2 := bf_ BK228 2) | ((with_reducible refine gate_builtin (b := .append) (xs := #[.tmp 58, .tmp 60]) rfl ?_); at_builtin; refine Kd.R_append k80 (w0 := w) w.heap.size rfl (.tmp 58) (.tmp 60) 48 80 (.agg #[(.int .i64 0), (.int .i64 0), (.int .i64 0)]) 24 rfl Try.underlying48 info80 rfl (by decide) (by omega) u6 x6_2 (⟨(rd_T80 l1 x24_2).f0, (rd_T80 l1 x24_2).f1, (rd_T80 l1 x24_2).f2⟩ : S80) [.int .i64 ((rd_T80 l1 x24_2).f0), .int .i64 ((rd_T80 l1 x24_2).f1), .int .i64 ((rd_T80 l1 x24_2).f2)] (fun k_ => k_ ≠ gb228) (fun _ => False) rfl (by first | (go_simp; done) | (go_simp; rfl)) ?aP (fun _ hk => hk.elim) ?aF ?aO ?aB ?aS ?aL ?_; (case aP => exact k80_mkM _ _ _ (⟨(rd_T80 l1 x24_2).f0, (rd_T80 l1 x24_2).f1, (rd_T80 l1 x24_2).f2⟩ : S80)); (case aB => exact (bU_ HB)); (case aF => exact (fun k_ hk => Kd.freshB (kU_ BK228) k_ hk)); (case aO => exact (rU_ HO_6.out)); (case aS => exact (bZ_ HB)); (case aL => have := LMc27.out; omega); intro v529 w32 ho hb hg hat; rw [← Ny528.out] at ho; have n0_ := M_ (kg_ BK221 hg (Kd.R_ne HO_6.out BK221.out (by decide))); have n1_ := M_ (kg_ BK228 hg (Kd.R_away HO_6.out (fun _ hk => hk))); have nM_ := M_ (mapIs_kept (by repeat (first | (with_reducible first | exact HM.out | apply mapIs_drewN | apply mapIs_alloc) | exact HM.out)) hg (rowNe_ HO_6.out (mapIs_blk HM.out))); clear HM; have HM := nM_; clear nM_; have n2_ := M_ (hb); have n3_ := M_ (ho); clear BK221; clear BK228; clear HB; clear HO_6; have BK221 := n0_; have BK228 := n1_; have HB := n2_; have HO530 := n3_; clear n0_ n1_ n2_ n3_; clear ho hb hg hat))
             go_roundg k2
             case measure => have := HJ2.out; have := HK2.out; omega
             case rel => exact ⟨(y528), (putM_ x7_2 ((rd_T80 l1 x24_2).f0) ((rd_T80 l1 x24_2).f1)), (wrap64 (x24_2 + 1)), eD_, H', ⟨by have := HJ2.out; have := HK2.out; omega⟩, ⟨by rw [Ny528.out, List.length_append]; exact HM.out⟩, ⟨by (with_reducible repeat (first | apply ra_ | apply rn_ | apply rd_)); exact rm_ HO530.out (fun _ hk => trivial)⟩, ⟨kU_ BK221⟩, ⟨bU_ HB⟩⟩
            ·rw [if_neg c27] at H
             exact absurd H (by simp)
          ·rw [if_neg c21] at H
           have c21m : (x7_2 ((rd_T80 l1 x24_2).f0)).isSome = false := Bool.eq_false_iff.mpr c21
           have c21b0 : decide ((x7_2 ((rd_T80 l1 x24_2).f0)).isSome = true) = false := decide_eq_false c21
           clear c21
           by_cases c33 : x6_2.length < 5864062014805
           ·rw [if_pos c33] at H
            have LMc33 := M_ c33;clear c33;obtain ⟨y531, hy531⟩ : ∃ y_ : List (S80), y_ = (x6_2 ++ [(⟨(rd_T80 l1 x24_2).f0, (rd_T80 l1 x24_2).f1, (rd_T80 l1 x24_2).f2⟩ : S80)]) := ⟨_, rfl⟩
            replace H : (impl_PlayablePart.l0 k2 y531 (putM_ x7_2 ((rd_T80 l1 x24_2).f0) ((rd_T80 l1 x24_2).f1)) l1 (l1.length : Int) (wrap64 (x24_2 + 1)) l0_0 a0_1) = some (r1, r2) := by first | (rw [hy531]; with_reducible exact H) | (have H2_ := (Option.bind_some _ _).symm.trans H; rw [hy531]; with_reducible exact H2_) | (have H2_ := (Option.bind_some _ _).symm.trans H; with_reducible exact H2_) | with_reducible exact H | (rw [hy531]; exact H) | exact H
            have Ny531 := M_ hy531;clear hy531
            have H' := M_ H
            clear H
            have p525 : 0 ≤ (x24_2 : Int) := dT_
            have q525 : x24_2 < (l1.length : Int) := dT_
            obtain ⟨ad525, e525, hx525_0, hx525_1, hx525_2⟩ := at_T80 HR1.out x24_2 p525 q525;cases e525;replace hx525_0 := (HB.out.cell (World.block_lt_of_cell? w _ hx525_0)).trans hx525_0;replace hx525_1 := (HB.out.cell (World.block_lt_of_cell? w _ hx525_1)).trans hx525_1;replace hx525_2 := (HB.out.cell (World.block_lt_of_cell? w _ hx525_2)).trans hx525_2;replace p525 := eq_true p525;replace q525 := eq_true q525
            go_wp2_with (first | ((with_reducible refine gate_dst (N := 9) rfl ?_); refine bx_ (N := 9) (cs := #[.int .i64 0, .int .i64 0, .int .i64 0]) (t := 80) ?_; intro gb228 hg w34 hbox hb; have nM_ := M_ (mapIs_below HM.out hb); have NBM := M_ (show w14.heap.size ≠ gb228 by rw [hg]; exact Nat.ne_of_lt (mapIs_lt HM.out)); clear HM; have HM := nM_; clear nM_; replace HO_6 := M_ (rb_ (Kd.R_elderB (rU_ HO_6.out) gb228 (Nat.le_of_eq hg.symm)) hb); have BK228 := M_ (hbox); have GW228 := M_ (gw_ HB hg); have GE228 := M_ (gw_ HB hg); replace HB := M_ (bS_ HB hb); have NB519_526 := M_ (nb_ BK221 hg); have NB526_519 := M_ ((by rw [hg]; exact Nat.ne_of_gt (blk_lt (kU_ BK221)) : gb228 ≠ gb221)); replace BK221 := M_ (kb_ BK221 hb); clear hb hbox hg; have hnb35 := NB526_519.out; have hnc35 := NB519_526.out; obtain ⟨hcz36_0, hcz36_1, hcz36_2, hfz36_0, hfz36_1, hfz36_2⟩ := bq3_ BK228; obtain ⟨hcz37_0, hcz37_1, hfz37_0, hfz37_1⟩ := bq2_ BK221) | ((with_reducible refine gc_ 103 ?_); refine gM_ (some 39) Try.func103 #[.slice A0_0 l0_0.length c0_0, .int .i64 ((rd_T80 l1 x24_2).f0)] ?_; (with_reducible refine (slices_Contains_int_int.calls k2 _ _ l0_0 ((rd_T80 l1 x24_2).f0) true _ ?side1 ?side2 A19.out).mono ?_); (case side1 => exact Kd.C_below HR0_0.out (bU_ HB)); (case side2 => exact HC0_0.out); rintro e w' ⟨rfl, ⟨nd, rfl⟩⟩; refine ⟨_, rfl, ?_⟩) | (at_lookup; refine wpList_map_look rfl _ _ rfl w14.heap.size x6_2.length x7_2 rfl (by repeat (first | (with_reducible first | exact HM.out | refine mapIs_set ?_ NBM.out _ | apply mapIs_drewN | apply mapIs_alloc) | exact HM.out)) ((rd_T80 l1 x24_2).f0) rfl cRa ?_) | (at_mapUpdate; refine wpList_map_put rfl _ _ _ rfl w14.heap.size x6_2.length x7_2 rfl (by repeat (first | (with_reducible first | exact HM.out | refine mapIs_set ?_ NBM.out _ | apply mapIs_drewN | apply mapIs_alloc) | exact HM.out)) (by have := LMc33.out; unfold maxLen; omega) ((rd_T80 l1 x24_2).f0) ((rd_T80 l1 x24_2).f1) rfl rfl cRa cRb ?_; intro w88 hm8 hg8; have n0_ := M_ (blk_grown (g := gb221) (o := .cells #[.slice A0_0 l0_0.length c0_0, .int .i64 a0_1] 58 (0, 0)) (by (with_reducible repeat (first | refine kn_ ?_ _ | refine kd_ ?_ | refine ka_ ?_ _)); refine blk_far ?_ NB519_526.out _; (with_reducible repeat (first | refine kn_ ?_ _ | refine kd_ ?_ | refine ka_ ?_ _)); refine blk_far ?_ NB519_526.out _; (with_reducible repeat (first | refine kn_ ?_ _ | refine kd_ ?_ | refine ka_ ?_ _)); refine blk_far ?_ NB519_526.out _; (with_reducible repeat (first | refine kn_ ?_ _ | refine kd_ ?_ | refine ka_ ?_ _)); exact BK221.out) hg8 (fun e_ => NM221.out (Option.some.inj e_))); have n1_ := M_ (blk_grown (g := gb228) (o := .cells #[.int .i64 ((rd_T80 l1 x24_2).f0), .int .i64 ((rd_T80 l1 x24_2).f1), .int .i64 ((rd_T80 l1 x24_2).f2)] 80 (0, 0)) (by (with_reducible repeat (first | refine kn_ ?_ _ | refine kd_ ?_ | refine ka_ ?_ _)); refine blk_put (cs := #[.int .i64 ((rd_T80 l1 x24_2).f0), .int .i64 ((rd_T80 l1 x24_2).f1), .int .i64 0]) ?_ 2 _ rfl; (with_reducible repeat (first | refine kn_ ?_ _ | refine kd_ ?_ | refine ka_ ?_ _)); refine blk_put (cs := #[.int .i64 ((rd_T80 l1 x24_2).f0), .int .i64 0, .int .i64 0]) ?_ 1 _ rfl; (with_reducible repeat (first | refine kn_ ?_ _ | refine kd_ ?_ | refine ka_ ?_ _)); refine blk_put (cs := #[.int .i64 0, .int .i64 0, .int .i64 0]) ?_ 0 _ rfl; (with_reducible repeat (first | refine kn_ ?_ _ | refine kd_ ?_ | refine ka_ ?_ _)); exact BK228.out) hg8 (fun e_ => NBM.out (Option.some.inj e_).symm)); have n2_ := M_ (show Below w.heap.size w w88 from Below.grown (row := some w14.heap.size) (w := _) (by exact (bU_ HB)) hg8 (by exact below_size (bU_ HB)) (fun k_ e_ => by injection e_ with e_; rw [← e_]; exact HGM.out)); have n3_ := M_ (show Kd.R k80 80 w88 w.heap.size (fun k_ => k_ ≠ gb228) u6 x6_2 from by (refine rowM_ (b := w14.heap.size) ?q1_ ?q2_ hg8; (case q1_ => exact (rU_ (rm_ (Kd.R_far (p := ⟨gb228, 2, none⟩) (Kd.R_far (p := ⟨gb228, 1, none⟩) (Kd.R_far (p := ⟨gb228, 0, none⟩) (rm_ HO_6.out (fun k_ hk => (⟨hk, hk.2⟩ : _ ∧ k_ ≠ gb228))) (fun _ hk => hk.2) (.int .i64 ((rd_T80 l1 x24_2).f0))) (fun _ hk => hk.2) (.int .i64 ((rd_T80 l1 x24_2).f1))) (fun _ hk => hk.2) (.int .i64 ((rd_T80 l1 x24_2).f2))) (fun _ hk => hk.1.2)))); (case q2_ => exact mapIs_blk (n := x6_2.length) (m := x7_2) (by repeat (first | (with_reducible first | exact HM.out | refine mapIs_set ?_ NBM.out _ | apply mapIs_drewN | apply mapIs_alloc) | exact HM.out))))); clear BK221; clear BK228; clear HB; clear HO_6; clear HM; have BK221 := n0_; have BK228 := n1_; have HB := n2_; have HO_6 := n3_; have HM := M_ hm8; clear n0_ n1_ n2_ n3_; clear hg8 hm8; have hcm_0 := bc0_ BK228; have hcm_1 := bc1_ BK228; have hcm_2 := bc2_ BK228; have hfm_0 := bf_ BK228 0; have hfm_1 := bf_ BK228 1; have hfm_2 := bf_ BK228 2) | ((with_reducible refine gate_builtin (b := .append) (xs := #[.tmp 58, .tmp 60]) rfl ?_); at_builtin; refine Kd.R_append k80 (w0 := w) w.heap.size rfl (.tmp 58) (.tmp 60) 48 80 (.agg #[(.int .i64 0), (.int .i64 0), (.int .i64 0)]) 24 rfl Try.underlying48 info80 rfl (by decide) (by omega) u6 x6_2 (⟨(rd_T80 l1 x24_2).f0, (rd_T80 l1 x24_2).f1, (rd_T80 l1 x24_2).f2⟩ : S80) [.int .i64 ((rd_T80 l1 x24_2).f0), .int .i64 ((rd_T80 l1 x24_2).f1), .int .i64 ((rd_T80 l1 x24_2).f2)] (fun k_ => k_ ≠ gb228) (fun _ => False) rfl (by first | (go_simp; done) | (go_simp; rfl)) ?aP (fun _ hk => hk.elim) ?aF ?aO ?aB ?aS ?aL ?_; (case aP => exact k80_mkM _ _ _ (⟨(rd_T80 l1 x24_2).f0, (rd_T80 l1 x24_2).f1, (rd_T80 l1 x24_2).f2⟩ : S80)); (case aB => exact (bU_ HB)); (case aF => exact (fun k_ hk => Kd.freshB (kU_ BK228) k_ hk)); (case aO => exact (rU_ HO_6.out)); (case aS => exact (bZ_ HB)); (case aL => have := LMc33.out; omega); intro v532 w38 ho hb hg hat; rw [← Ny531.out] at ho; have n0_ := M_ (kg_ BK221 hg (Kd.R_ne HO_6.out BK221.out (by decide))); have n1_ := M_ (kg_ BK228 hg (Kd.R_away HO_6.out (fun _ hk => hk))); have nM_ := M_ (mapIs_kept (by repeat (first | (with_reducible first | exact HM.out | apply mapIs_drewN | apply mapIs_alloc) | exact HM.out)) hg (rowNe_ HO_6.out (mapIs_blk HM.out))); clear HM; have HM := nM_; clear nM_; have n2_ := M_ (hb); have n3_ := M_ (ho); clear BK221; clear BK228; clear HB; clear HO_6; have BK221 := n0_; have BK228 := n1_; have HB := n2_; have HO533 := n3_; clear n0_ n1_ n2_ n3_; clear ho hb hg hat))
            go_roundg k2
            case measure => have := HJ2.out; have := HK2.out; omega
            case rel => exact ⟨(y531), (putM_ x7_2 ((rd_T80 l1 x24_2).f0) ((rd_T80 l1 x24_2).f1)), (wrap64 (x24_2 + 1)), eD_, H', ⟨by have := HJ2.out; have := HK2.out; omega⟩, ⟨by rw [Ny531.out, List.length_append]; exact HM.out⟩, ⟨by (with_reducible repeat (first | apply ra_ | apply rn_ | apply rd_)); exact rm_ HO533.out (fun _ hk => trivial)⟩, ⟨kU_ BK221⟩, ⟨bU_ HB⟩⟩
           ·rw [if_neg c33] at H
            exact absurd H (by simp)
         ·replace c20 := Bool.eq_false_iff.mpr c20
          subst c20
          rw [if_neg (show ¬ (false = true) by decide)] at H
          have H' := M_ H
          clear H
          have p525 : 0 ≤ (x24_2 : Int) := dT_
          have q525 : x24_2 < (l1.length : Int) := dT_
          obtain ⟨ad525, e525, hx525_0, hx525_1, hx525_2⟩ := at_T80 HR1.out x24_2 p525 q525;cases e525;replace hx525_0 := (HB.out.cell (World.block_lt_of_cell? w _ hx525_0)).trans hx525_0;replace hx525_1 := (HB.out.cell (World.block_lt_of_cell? w _ hx525_1)).trans hx525_1;replace hx525_2 := (HB.out.cell (World.block_lt_of_cell? w _ hx525_2)).trans hx525_2;replace p525 := eq_true p525;replace q525 := eq_true q525
          go_wp2_with (first | ((with_reducible refine gate_dst (N := 9) rfl ?_); refine bx_ (N := 9) (cs := #[.int .i64 0, .int .i64 0, .int .i64 0]) (t := 80) ?_; intro gb228 hg w39 hbox hb; have nM_ := M_ (mapIs_below HM.out hb); have NBM := M_ (show w14.heap.size ≠ gb228 by rw [hg]; exact Nat.ne_of_lt (mapIs_lt HM.out)); clear HM; have HM := nM_; clear nM_; replace HO_6 := M_ (rb_ (Kd.R_elderB (rU_ HO_6.out) gb228 (Nat.le_of_eq hg.symm)) hb); have BK228 := M_ (hbox); have GW228 := M_ (gw_ HB hg); have GE228 := M_ (gw_ HB hg); replace HB := M_ (bS_ HB hb); have NB519_526 := M_ (nb_ BK221 hg); have NB526_519 := M_ ((by rw [hg]; exact Nat.ne_of_gt (blk_lt (kU_ BK221)) : gb228 ≠ gb221)); replace BK221 := M_ (kb_ BK221 hb); clear hb hbox hg; have hnb40 := NB526_519.out; have hnc40 := NB519_526.out; obtain ⟨hcz41_0, hcz41_1, hcz41_2, hfz41_0, hfz41_1, hfz41_2⟩ := bq3_ BK228; obtain ⟨hcz42_0, hcz42_1, hfz42_0, hfz42_1⟩ := bq2_ BK221) | (at_lookup; refine wpList_map_look rfl _ _ rfl w14.heap.size x6_2.length x7_2 rfl (by repeat (first | (with_reducible first | exact HM.out | refine mapIs_set ?_ NBM.out _ | apply mapIs_drewN | apply mapIs_alloc) | exact HM.out)) ((rd_T80 l1 x24_2).f0) rfl cRa ?_) | ((with_reducible refine gc_ 103 ?_); refine gM_ (some 39) Try.func103 #[.slice A0_0 l0_0.length c0_0, .int .i64 ((rd_T80 l1 x24_2).f0)] ?_; (with_reducible refine (slices_Contains_int_int.calls k2 _ _ l0_0 ((rd_T80 l1 x24_2).f0) false _ ?side1 ?side2 A19.out).mono ?_); (case side1 => exact Kd.C_below HR0_0.out (bU_ HB)); (case side2 => exact HC0_0.out); rintro e w' ⟨rfl, ⟨nd, rfl⟩⟩; refine ⟨_, rfl, ?_⟩))
          go_roundg k2
          case measure => have := HJ2.out; have := HK2.out; omega
          case rel => exact ⟨(x6_2), (x7_2), (wrap64 (x24_2 + 1)), eD_, H', ⟨by have := HJ2.out; have := HK2.out; omega⟩, ⟨by repeat (first | (with_reducible first | exact HM.out | refine mapIs_set ?_ NBM.out _ | apply mapIs_drewN | apply mapIs_alloc) | exact HM.out)⟩, ⟨by (with_reducible repeat (first | apply ra_ | apply rn_ | apply rd_)); exact rm_ (Kd.R_far (p := ⟨gb228, 2, none⟩) (Kd.R_far (p := ⟨gb228, 1, none⟩) (Kd.R_far (p := ⟨gb228, 0, none⟩) (rm_ HO_6.out (fun k_ hk => (⟨hk, hk.2⟩ : _ ∧ k_ ≠ gb228))) (fun _ hk => hk.2) (.int .i64 ((rd_T80 l1 x24_2).f0))) (fun _ hk => hk.2) (.int .i64 ((rd_T80 l1 x24_2).f1))) (fun _ hk => hk.2) (.int .i64 ((rd_T80 l1 x24_2).f2))) (fun _ hk => trivial)⟩, ⟨by (with_reducible repeat (first | refine kn_ ?_ _ | refine kd_ ?_ | refine ka_ ?_ _)); refine blk_far ?_ NB519_526.out _; (with_reducible repeat (first | refine kn_ ?_ _ | refine kd_ ?_ | refine ka_ ?_ _)); refine blk_far ?_ NB519_526.out _; (with_reducible repeat (first | refine kn_ ?_ _ | refine kd_ ?_ | refine ka_ ?_ _)); refine blk_far ?_ NB519_526.out _; (with_reducible repeat (first | refine kn_ ?_ _ | refine kd_ ?_ | refine ka_ ?_ _)); exact BK221.out⟩, ⟨bU_ HB⟩⟩
        ·rw [if_neg c18] at H
         exact absurd H (by simp)
       ·rw [if_neg c17] at H
        exact absurd H (by simp)
      ·rw [if_neg c16] at H
       have c16b0 : decide (x24_2 < (l1.length : Int)) = false := decide_eq_false c16
       clear c16;simp only [Option.some.injEq, Prod.mk.injEq] at H;obtain ⟨rfl, rfl⟩ := H
       go_wp2
       go_ret2
       exact ⟨_, eR_, rU_ HO_6.out, bU_ HB⟩
def spec_inLast.l0 : Nat → List (S80) → Int → Int → Option (Int)
 | 0, _, _, _ => none
 | k + 1, x0, x1, x5 => if x5 ≥ 0 then (if 0 ≤ x5 then (if x5 < (x0.length : Int) then (if 0 ≤ x1 then (if x1 < (x0.length : Int) then (if ((rd_T80 x0 x5).f0) = ((rd_T80 x0 x1).f0) then (some x5) else (spec_inLast.l0 k x0 x1 (wrap64 (x5 - 1)))) else (none)) else (none)) else (none)) else (none)) else (some (-1))
def spec_inLast.f (k : Nat) (l0 : List (S80)) (a1 : Int) : Option (Int) := spec_inLast.l0 k l0 a1 (wrap64 (a1 - 1))
theorem spec_inLast.mono_l : ∀ k, (∀ y0 y1 y2, LeO (spec_inLast.l0 k y0 y1 y2) (spec_inLast.l0 (k + 1) y0 y1 y2))
 | 0 => fun _ _ _ r h => by simp [spec_inLast.l0] at h
 | k + 1 => by
  have ih0 := spec_inLast.mono_l k
  ·intro y0 y1 y2
   unfold spec_inLast.l0
   exact mo_
theorem spec_inLast.mono : ∀ a0 a1 k, LeO (spec_inLast.f k a0 a1) (spec_inLast.f (k + 1) a0 a1) := by
 intro a0 a1 k;have ih0 := spec_inLast.mono_l k
 unfold spec_inLast.f
 exact mo_
set_option maxHeartbeats 8000000 in
set_option maxRecDepth 100000 in
theorem spec_inLast.calls (k : Nat) (A0 : Option Addr) (c0 : Nat) (l0 : List (S80)) (a1 : Int) (r : Int) (w : World) (hr0 : Kd.C k80 w A0 l0.length l0) (hc0 : l0.length ≤ c0) (h : spec_inLast.f k l0 a1 = some r) :
  Calls Try.prog 131 #[.slice A0 l0.length c0, .int .i64 a1] w fun e w' => e = .returned (.int .i64 r) ∧ Below w.heap.size w w' := by
 have HR0 := M_ hr0;have HC0 := M_ hc0;clear hr0 hc0;have HB := M_ (Below.refl w.heap.size w)
 have H : (spec_inLast.l0 k l0 a1 (wrap64 (a1 - 1))) = some r := h
 clear h
 have H' := M_ H
 clear H
 go_enter Try.func131, Try.ntmps131
 go_wp2
 repeat (go_quiet (fail); try go_wp2)
 go_loopg [5] k (fun kq v5 w' => ∃ (x5_1 : Int), v5 = .int .i64 x5_1 ∧ Aside0 (spec_inLast.l0 kq l0 a1 x5_1 = some r) ∧ Aside0 (kq ≤ k) ∧ Aside0 (Below w.heap.size w w'))
 case atStart => exact ⟨(wrap64 (a1 - 1)), eD_, H', ⟨Nat.le_refl _⟩, ⟨bU_ HB⟩⟩
 case round =>
  clear H';obtain ⟨x5_1, rfl, HA, HK1, HB⟩ := hrel
  cases gk with
  | zero => exact absurd HA.out (by simp [spec_inLast.l0])
  | succ k1 =>
   have H := HA.out;clear HA;simp only [spec_inLast.l0] at H
   by_cases c3 : x5_1 ≥ 0
   ·rw [if_pos c3] at H
    have c3b0 : decide (0 ≤ x5_1) = true := decide_eq_true c3
    clear c3
    by_cases c4 : 0 ≤ x5_1
    ·rw [if_pos c4] at H
     have c4b0 : decide (0 ≤ x5_1) = true := decide_eq_true c4
     clear c4
     by_cases c5 : x5_1 < (l0.length : Int)
     ·rw [if_pos c5] at H
      have c5b0 : decide (x5_1 < (l0.length : Int)) = true := decide_eq_true c5
      clear c5
      by_cases c6 : 0 ≤ a1
      ·rw [if_pos c6] at H
       have c6b0 : decide (0 ≤ a1) = true := decide_eq_true c6
       clear c6
       by_cases c7 : a1 < (l0.length : Int)
       ·rw [if_pos c7] at H
        have c7b0 : decide (a1 < (l0.length : Int)) = true := decide_eq_true c7
        clear c7
        by_cases c8 : ((rd_T80 l0 x5_1).f0) = ((rd_T80 l0 a1).f0)
        focus
         rw [if_pos c8] at H
         have c8b0 : (((rd_T80 l0 x5_1).f0) == ((rd_T80 l0 a1).f0)) = true := beq_iff_eq.mpr c8
         have c8b1 : (((rd_T80 l0 x5_1).f0) != ((rd_T80 l0 a1).f0)) = false := bne_eq_false_iff_eq.mpr c8
         clear c8;obtain rfl := Option.some.inj H
        rotate_left
        focus
         rw [if_neg c8] at H
         have c8b0 : (((rd_T80 l0 x5_1).f0) == ((rd_T80 l0 a1).f0)) = false := beq_eq_false_iff_ne.mpr c8
         have c8b1 : (((rd_T80 l0 x5_1).f0) != ((rd_T80 l0 a1).f0)) = true := bne_iff_ne.mpr c8
         have H' := M_ H
         clear H
        rotate_left
        all_goals
         have p534 : 0 ≤ (x5_1 : Int) := dT_
         have q534 : x5_1 < (l0.length : Int) := dT_
         obtain ⟨ad534, e534, hx534_0, hx534_1, hx534_2⟩ := at_T80 HR0.out x5_1 p534 q534;cases e534;replace hx534_0 := (HB.out.cell (World.block_lt_of_cell? w _ hx534_0)).trans hx534_0;replace hx534_1 := (HB.out.cell (World.block_lt_of_cell? w _ hx534_1)).trans hx534_1;replace hx534_2 := (HB.out.cell (World.block_lt_of_cell? w _ hx534_2)).trans hx534_2;replace p534 := eq_true p534;replace q534 := eq_true q534
         have p535 : 0 ≤ (a1 : Int) := dT_
         have q535 : a1 < (l0.length : Int) := dT_
         obtain ⟨ad535, e535, hx535_0, hx535_1, hx535_2⟩ := at_T80 HR0.out a1 p535 q535;obtain rfl : ad534 = ad535 := (by injection e535);replace hx535_0 := (HB.out.cell (World.block_lt_of_cell? w _ hx535_0)).trans hx535_0;replace hx535_1 := (HB.out.cell (World.block_lt_of_cell? w _ hx535_1)).trans hx535_1;replace hx535_2 := (HB.out.cell (World.block_lt_of_cell? w _ hx535_2)).trans hx535_2;replace p535 := eq_true p535;replace q535 := eq_true q535
         go_wp2
         repeat (go_quiet (fail); try go_wp2)
        ·go_ret
         exact ⟨eR_, bU_ HB⟩
        ·go_roundg k1
         case measure => have := HK1.out; omega
         case rel => exact ⟨(wrap64 (x5_1 - 1)), eD_, H', ⟨by have := HK1.out; omega⟩, ⟨bU_ HB⟩⟩
       ·rw [if_neg c7] at H
        exact absurd H (by simp)
      ·rw [if_neg c6] at H
       exact absurd H (by simp)
     ·rw [if_neg c5] at H
      exact absurd H (by simp)
    ·rw [if_neg c4] at H
     exact absurd H (by simp)
   ·rw [if_neg c3] at H
    have c3b0 : decide (0 ≤ x5_1) = false := decide_eq_false c3
    clear c3;obtain rfl := Option.some.inj H
    go_wp2
    repeat (go_quiet (fail); try go_wp2)
    go_ret
    exact ⟨eR_, bU_ HB⟩
end Go.Proofs.Ytgeipgflhjakjaa.PFnPlayable
