-- by wip/xprint.py, over the kit's printer
import Derived.Test.YtgeipgflhjakjaaPFnTempoChangesx0
namespace Go.Proofs.Ytgeipgflhjakjaa.PFnTempoChanges
open Go.RowKit Go.Proofs.YtgeipgflhjakjaaW.PrintWords Go.Proofs.YtgeipgflhjakjaaW.PrintLast Go.Proofs.YtgeipgflhjakjaaW.PrintMore
attribute [local go_sem] max2_int min2_int max_two min_two max_three min_three max_four min_four   -- for this text's walks alone
set_option linter.unusedVariables false
set_option linter.unusedSimpArgs false
private abbrev M_ {p : Prop} (h : p) : Aside0 p := Aside0.mk h
private abbrev la_ := @List.setIfInBounds_toArray
private abbrev lb_ := @List.set_cons_zero
private abbrev lc_ := @List.set_cons_succ
private abbrev bn_ := @pw_below_drewN
private abbrev b1_ := @below_drew1
private abbrev ba_ := @below_alloc
private abbrev bs_ := @below_set
private abbrev kn_ := @blk_drewN
private abbrev ka_ := @blk_alloc
private abbrev kd_ := @blk_drew
private abbrev rn_ := @Kd.R_drewN
private abbrev ra_ := @Kd.R_alloc
private abbrev rd_ := @Kd.R_drew
private abbrev rb_ := @Kd.R_below
private abbrev rm_ := @Kd.R_mono
private abbrev rt_ := @Kd.R_types

-- XNAME impl_Change_86 insert_Change
-- XINS
theorem wpList_copy_runI_ {P : Program} (w : World) {ops : Array Oper} {rest : List Oper} {o : Oper} {a : Act} {Q : Exit → Act → World → Prop} (hgd : o.guard = none) (d s : Operand) (t t' : TypeId)
  (ho : o.op = .call { callee := .builtin .copy, args := #[d, s], argTypes := #[t, t'] }) (v u : Value) (hd : a.eval d = v) (hs : a.eval s = u) {v' : Value} {w' : World}
  (hr : (Builtin.copy_ #[t, t'] o.type #[v, u]).run P w = .ok v' w') (h : wpList P ops Q rest (a.put o.dst v') w') : wpList P ops Q (o :: rest) a w :=
 wpList_plain hgd fun _ hK => by
  unfold Oper.wp execOp
  simp only [ho, resolve, invoke, builtin, Sem.run_bind, Sem.run_pure, Result.andThen_ok, List.map_toArray, List.map_cons, List.map_nil, hd, hs, hr]
  exact hK _ _ h
theorem step_copy_runI_ {P : Program} {ops : Array Oper} {o : Oper} {a : Act} {w : World} {K : Act → World → Prop} {Q : Exit → Act → World → Prop} {E : Prop}
  (hg : o.guard = none) (d x : Operand) (dT sT : TypeId) (hop : o.op = Op.call { callee := Callee.builtin Builtin.copy, args := #[d, x], argTypes := #[dT, sT] })
  (v u : Value) (hd : a.eval d = v) (hx : a.eval x = u) {v' : Value} {w' : World} (hr : (Builtin.copy_ #[dT, sT] o.type #[v, u]).run P w = .ok v' w') (hK : K (a.put o.dst v') w') :
  if Region.wanted o (yielded ops a.tmps) = true then Oper.wp P o a w K Q else E := by
 have hw : Region.wanted o (yielded ops a.tmps) = true := by simp [Region.wanted, hg]
 rw [if_pos hw]
 unfold Oper.wp
 simp [execOp, hop, resolve, invoke, builtin, hd, hx, hr, Result.andThen]
 exact hK
theorem isSome_setCells_ (b : Nat) (vs : List Value) (o : Nat) (w : World) (k : Nat) (hk : (w.cell? ⟨b, k, none⟩).isSome = true) : ((w.setCells b o vs).cell? ⟨b, k, none⟩).isSome = true := by
 induction vs generalizing o w with
 | nil => exact hk
 | cons v r ih =>
  rw [World.setCells]
  obtain ⟨u, hu⟩ := Option.isSome_iff_exists.1 hk
  obtain ⟨v', h'⟩ := RowKit.cell?_setCell_some (p := ⟨b, o, none⟩) (x := v) hu
  exact ih (o + 1) _ (by rw [h']; rfl)
theorem run_copy_cells_ {P : Program} (w : World) (dT sT ty elem : TypeId) (sz : Nat) (b o dLen dCap : Nat) (a : Addr) (sLen sCap : Nat) (cs : List Value)
  (hu : P.underlying dT = some (.slice elem)) (hs : (P.info? elem).map (·.size) = some sz) (hn : cs.length = Nat.min sLen dLen * sz)
  (hsrc : ∀ j v, cs[j]? = some v → w.cell? (a.add j) = some v) (hc : ∀ j, j < cs.length → (w.cell? ⟨b, o + j, none⟩).isSome = true) (hf : ∀ j, j < cs.length → w.frozen? ⟨b, o + j, none⟩ = false) (h1 : ∀ v ∈ cs, v.oneCell' = true) :
  (Builtin.copy_ #[dT, sT] ty #[.slice (some ⟨b, o, none⟩) dLen dCap, .slice (some a) sLen sCap]).run P w = .ok (goInt (Nat.min sLen dLen)) (w.setCells b o cs) := by
 have hl := run_loadCells_list (P := P) w a cs hsrc
 have hst := run_storeCells_cells (P := P) b o cs 0 w (by simpa using hc) (by simpa using hf) h1
 rw [hn] at hl
 cases hq : P.info? elem with
 | none => simp [hq] at hs
 | some i =>
  have hi : i.size = sz := by simpa [hq] using hs
  simp only [Nat.add_zero] at hst
  simp [Builtin.copy_, run_underlying hu, Builtin.lenOf, Builtin.firstCells, sizeOf, typeInfo, hq, hi, hl, hst]
set_option maxHeartbeats 4000000 in
set_option maxRecDepth 100000 in
theorem impl_Change_86.shift (b n c i vb m vc : Nat) (cs vs : List Value) (w : World) (hi : i < n) (hm : 0 < m) (hroom : n + m ≤ c) (hc63 : c ≤ 9223372036854775807) (hvb : vb ≠ b)
  (hcl : cs.length = n * 2) (hvl : vs.length = m * 2)
  (hcs : ∀ j v, cs[j]? = some v → w.cell? ⟨b, j, none⟩ = some v) (hsp : ∀ j, j < (n + m) * 2 → (w.cell? ⟨b, j, none⟩).isSome = true) (hfz : ∀ j, w.frozen? ⟨b, j, none⟩ = false)
  (hvs : ∀ j v, vs[j]? = some v → w.cell? ⟨vb, j, none⟩ = some v) (h1c : ∀ v ∈ cs, v.oneCell' = true) (h1v : ∀ v ∈ vs, v.oneCell' = true)
  (tA tB : TypeId) (kA kB : Nat) (hsa : w.shape? vb = some (tA, kA)) (hsb : w.shape? b = some (tB, kB)) (hkB : kB ≠ 0) (hfa : w.frozen? ⟨vb, 0, none⟩ = false) (hfe : w.frozen? ⟨vb, kA, none⟩ = false) :
  Calls Try.prog 86 #[.slice (some ⟨b, 0, none⟩) n c, .int .i64 i, .slice (some ⟨vb, 0, none⟩) m vc] w fun e w' =>
   e = .returned (.slice (some ⟨b, 0, none⟩) (n + m) c) ∧ w' = (w.drew.setCells b ((i + m) * 2) (cs.drop (i * 2))).setCells b (i * 2) vs := by
 have hz1 : ¬ ((m : Int) = 0) := by omega
 have hz2 : ¬ ((i : Int) = (n : Int)) := by omega
 have hsz : (Try.prog.info? 41).map (·.size) = some 2 := by exact (congrArg (Option.map (fun q : Option Value × Nat × Nat => q.2.1)) info41)
 have hov : ∀ lb cb, (callFunc 120 #[.slice (some ⟨vb, 0, none⟩) m vc, .slice (some ⟨b, (i + m) * 2, none⟩) lb cb]).run Try.prog w = .ok (.value (.bool false)) w := fun lb cb => by
  rw [run_callFunc_extern Try.func120 (by kernel_rfl) (by kernel_rfl) (by kernel_rfl) (e := Extern.SlicesOverlaps.overlaps #[23, 23] #[4]) (by kernel_rfl),
   Lib.run_overlaps_apart w 23 4 41 Try.underlying23 2 (fun w => by obtain ⟨i0, hi0, hzz⟩ := Option.map_eq_some_iff.1 info41; simp only [Prod.mk.injEq] at hzz; simp [sizeOf, typeInfo, hi0, hzz.2.1]) ⟨vb, 0, none⟩ ⟨b, (i + m) * 2, none⟩ m vc lb cb hvb tA tB kA kB hsa hsb hkB hfa hfe]
  rfl
 have hdl : (cs.drop (i * 2)).length = (n - i) * 2 := by rw [List.length_drop, hcl]; omega
 have mixed : Try.prog.follows .mixedOrders = true := by kernel_rfl
 have hw1 : IntKind.i64.wrap ((i : Int) + (m : Int)) = (i : Int) + (m : Int) := by rw [IntKind.wrap_i64]; omega
 have hb1 : (0 : Int) ≤ (i : Int) + (m : Int) := by omega
 have hin : i ≤ n := by omega
 have htn : ((i : Int) + (m : Int)).toNat = i + m := by omega
 have hb2 : ¬ (c = i + m) := by omega
 have hb3 : (i : Int) ≤ (n : Int) + (m : Int) := by omega
 have hb4 : ¬ (c = i) := by omega
 have hcp1 : ∀ ty dc sc, (Builtin.copy_ #[23, 23] ty #[.slice (some ⟨b, (i + m) * 2, none⟩) (n + m - (i + m)) dc, .slice (some ⟨b, i * 2, none⟩) (n + m - i) sc]).run Try.prog w.drew = .ok (goInt (Nat.min (n + m - i) (n + m - (i + m)))) (w.drew.setCells b ((i + m) * 2) (cs.drop (i * 2))) := fun ty dc sc =>
  run_copy_cells_ w.drew _ _ ty 41 2 b ((i + m) * 2) (n + m - (i + m)) dc ⟨b, i * 2, none⟩ (n + m - i) sc (cs.drop (i * 2)) Try.underlying23 hsz (by rw [hdl]; congr 1; simp only [Nat.min_def]; split <;> omega)
   (fun j v hj => by rw [Addr.add_lit]; exact hcs (i * 2 + j) v (by rwa [List.getElem?_drop] at hj))
   (fun j hj => hsp _ (by rw [hdl] at hj; omega)) (fun j hj => hfz _) (fun v hv => h1c v (List.mem_of_mem_drop hv))
 obtain ⟨W1, hW1⟩ : ∃ W1, W1 = w.drew.setCells b ((i + m) * 2) (cs.drop (i * 2)) := ⟨_, rfl⟩
 have hsp1 : ∀ k, k < (n + m) * 2 → (W1.cell? ⟨b, k, none⟩).isSome = true := fun k hk => by
  rw [hW1]
  exact isSome_setCells_ b _ _ _ _ (hsp k hk)
 have hcp2 : ∀ (W : World), (∀ x, W.cell? x = W1.cell? x) → (∀ x, W.frozen? x = W1.frozen? x) → ∀ ty dc, (Builtin.copy_ #[23, 23] ty #[.slice (some ⟨b, i * 2, none⟩) (n + m - i) dc, .slice (some ⟨vb, 0, none⟩) m vc]).run Try.prog W = .ok (goInt (Nat.min m (n + m - i))) (W.setCells b (i * 2) vs) := fun W hWc hWf ty dc =>
  run_copy_cells_ W _ _ ty 41 2 b (i * 2) (n + m - i) dc ⟨vb, 0, none⟩ m vc vs Try.underlying23 hsz (by rw [hvl]; congr 1; simp only [Nat.min_def]; split <;> omega)
   (fun j v hj => by
    rw [Addr.add_lit, Nat.zero_add, hWc, hW1, World.cell?_setCells_out b _ _ _ _ (fun h _ => absurd h hvb)]
    exact hvs j v hj)
   (fun j hj => by rw [hWc]; exact hsp1 _ (by rw [hvl] at hj; omega)) (fun j hj => by rw [hWf, hW1, World.frozen?_setCells]; exact hfz _) h1v
 rw [← hW1] at hcp1
 go_enter Try.func86, Try.ntmps86
 go_wp2_with (simp only [hov])
 go_region_law_o (refine step_copy_runI_ rfl _ _ 23 23 rfl _ _ (by simp [Act.eval, Act.put]) (by simp [Act.eval, Act.put]) (hcp1 _ _ _) ?_)
 go_wp2_with (at_builtin; refine wpList_copy_runI_ _ rfl _ _ 23 23 rfl _ _ rfl rfl (hcp2 _ (fun _ => rfl) (fun _ => rfl) _ _) ?_)
 go_ret
 first | exact ⟨rfl, rfl⟩ | exact ⟨rfl, by rw [hW1]⟩
set_option maxHeartbeats 4000000 in
set_option maxRecDepth 100000 in
theorem impl_Change_86.end_room (b n c vb m vc : Nat) (vs : List Value) (w : World) (hm : 0 < m) (hroom : n + m ≤ c) (hc63 : c ≤ 9223372036854775807)
  (hvl : vs.length = m * 2) (hsp : ∀ j, j < (n + m) * 2 → (w.cell? ⟨b, j, none⟩).isSome = true) (hfz : ∀ j, w.frozen? ⟨b, j, none⟩ = false)
  (hvs : ∀ j v, vs[j]? = some v → w.cell? ⟨vb, j, none⟩ = some v) (h1v : ∀ v ∈ vs, v.oneCell' = true) :
  Calls Try.prog 86 #[.slice (some ⟨b, 0, none⟩) n c, .int .i64 n, .slice (some ⟨vb, 0, none⟩) m vc] w fun e w' =>
   e = .returned (.slice (some ⟨b, 0, none⟩) (n + m) c) ∧ w' = w.setCells b (n * 2) vs := by
 have mixed : Try.prog.follows .mixedOrders = true := by kernel_rfl
 have hz1 : ¬ ((m : Int) = 0) := by omega
 obtain ⟨i0, hi0, hzz⟩ := Option.map_eq_some_iff.1 info41
 simp only [Prod.mk.injEq] at hzz
 obtain ⟨hz0, hzs, hzb⟩ := hzz
 have hsrc : Src Try.prog i0.size 23 (.slice (some ⟨vb, 0, none⟩) m vc) m vs w := Src.ofSlice w Try.underlying23 ⟨vb, 0, none⟩ m vc vs (by rw [hzs]; exact hvl) (fun j u hj => by rw [Addr.add_lit, Nat.zero_add]; exact hvs j u hj) h1v
 have hW : w.setCells b (0 + n * i0.size) vs = w.setCells b (n * 2) vs := by rw [hzs, Nat.zero_add]
 go_enter Try.func86, Try.ntmps86
 go_wp2_with (at_builtin; refine wpList_append_room_src _ rfl _ _ 23 23 rfl 41 i0 Try.underlying23 hi0 b 0 n c rfl _ rfl m vs hsrc hroom (by rw [hvl, hzs, Nat.zero_add]; exact fun j hj => hsp _ (by omega)) (fun j _ => hfz _) ?_; rw [hW])
 go_ret
 exact ⟨rfl, rfl⟩
set_option maxHeartbeats 4000000 in
set_option maxRecDepth 100000 in
theorem impl_Change_86.end_grow (base : Option Addr) (n c vb m vc : Nat) (cs vs : List Value) (w : World) (hm : 0 < m) (hnc : n ≤ c) (hroom : c < n + m) (hbig : (n + m) * 64 ≤ 140737488355328)
  (hcl : cs.length = n * 2) (hvl : vs.length = m * 2) (hnil : base = none → n = 0)
  (hcs : ∀ a, base = some a → ∀ j v, cs[j]? = some v → w.cell? (a.add j) = some v)
  (hvs : ∀ j v, vs[j]? = some v → w.cell? ⟨vb, j, none⟩ = some v) (h1v : ∀ v ∈ vs, v.oneCell' = true) :
  Calls Try.prog 86 #[.slice base n c, .int .i64 n, .slice (some ⟨vb, 0, none⟩) m vc] w fun e w' => ∃ G, n + m ≤ G ∧ G ≤ 9223372036854775807 ∧
   e = .returned (.slice (some ⟨w.heap.size, 0, none⟩) (n + m) G) ∧ w' = w.drew.alloc (.cells ((cs ++ vs).toArray ++ Builtin.zeroCells ((.agg #[(.int .i64 0), (.int .i64 0)]) : Value).cells (G - (n + m))) 41) := by
 have mixed : Try.prog.follows .mixedOrders = true := by kernel_rfl
 have hz1 : ¬ ((m : Int) = 0) := by omega
 obtain ⟨i0, hi0, hzz⟩ := Option.map_eq_some_iff.1 info41
 simp only [Prod.mk.injEq] at hzz
 obtain ⟨hz0, hzs, hzb⟩ := hzz
 have hsrc : Src Try.prog i0.size 23 (.slice (some ⟨vb, 0, none⟩) m vc) m vs w := Src.ofSlice w Try.underlying23 ⟨vb, 0, none⟩ m vc vs (by rw [hzs]; exact hvl) (fun j u hj => by rw [Addr.add_lit, Nat.zero_add]; exact hvs j u hj) h1v
 have hold : (Builtin.firstCells i0.size n (.slice base n c)).run Try.prog w.drew = .ok cs.toArray w.drew := by
  rw [hzs]
  cases base with
  | none =>
   have h0 := hnil rfl
   subst h0
   obtain rfl : cs = [] := List.eq_nil_of_length_eq_zero (by simpa using hcl)
   exact run_firstCells_none w.drew 2 0 0 c
  | some a => exact run_firstCells_some w.drew 2 n a n c cs hcl (fun j v hj => hcs a rfl j v hj)
 have hrun : ∀ ty, (Builtin.append_ #[23, 23] ty #[.slice base n c, .slice (some ⟨vb, 0, none⟩) m vc]).run Try.prog w = _ := fun ty =>
  run_append_grow_src w 23 23 ty 41 i0 _ Try.underlying23 hi0 hz0 base n c cs hold _ m vs hsrc hroom (by omega) (by rw [hzb]; exact growslice_fits hroom (by omega))
 have hG1 : n + m ≤ grownCap w (n + m) c 41 := grownCap_ge w _ _ _
 have hG2 : grownCap w (n + m) c 41 ≤ 9223372036854775807 := by
  have := grownCap_le_maxLen w (n + m) c 41 (by unfold maxLen; omega)
  unfold maxLen at this
  omega
 go_enter Try.func86, Try.ntmps86
 cases base with
 | none =>
  have h0 := hnil rfl
  subst h0
  go_wp2_with (at_builtin; refine Lib.wpList_append_run _ rfl _ _ _ _ rfl _ _ rfl rfl _ _ (hrun _) ?_)
  go_ret
  exact ⟨_, by first | exact hG1 | simpa using hG1, hG2, by first | rfl | (simp; done) | (simp_all; done), by first | rfl | (simp; done) | (simp_all; done)⟩
 | some a =>
  obtain ⟨ab, ao, asp⟩ := a
  go_wp2_with (at_builtin; refine Lib.wpList_append_run _ rfl _ _ _ _ rfl _ _ rfl rfl _ _ (hrun _) ?_)
  all_goals (go_ret; exact ⟨_, by first | exact hG1 | simpa using hG1, hG2, by first | rfl | (simp; done) | (simp_all; done), by first | rfl | (simp; done) | (simp_all; done)⟩)
set_option maxHeartbeats 4000000 in
set_option maxRecDepth 100000 in
theorem impl_Change_86.grow (b n c i vb m vc : Nat) (cs vs : List Value) (w : World) (hi : i < n) (hm : 0 < m) (hnc : n ≤ c) (hroom : c < n + m) (hbig : (n + m) * 64 ≤ 140737488355328)
  (hcl : cs.length = n * 2) (hvl : vs.length = m * 2)
  (hcs : ∀ j v, cs[j]? = some v → w.cell? ⟨b, j, none⟩ = some v)
  (hvs : ∀ j v, vs[j]? = some v → w.cell? ⟨vb, j, none⟩ = some v) (h1c : ∀ v ∈ cs, v.oneCell' = true) (h1v : ∀ v ∈ vs, v.oneCell' = true) :
  Calls Try.prog 86 #[.slice (some ⟨b, 0, none⟩) n c, .int .i64 i, .slice (some ⟨vb, 0, none⟩) m vc] w fun e w' => ∃ G, n + m ≤ G ∧ G ≤ 9223372036854775807 ∧
   e = .returned (.slice (some ⟨w.heap.size, 0, none⟩) (n + m) G) ∧
   w' = (((w.alloc (.cells ((cs.take (i * 2)).toArray ++ Builtin.zeroCells ((.agg #[(.int .i64 0), (.int .i64 0)]) : Value).cells (n + m - i) ++ Builtin.zeroCells ((.agg #[(.int .i64 0), (.int .i64 0)]) : Value).cells (G - (n + m))) 41)).drew.setCells w.heap.size (i * 2) vs).drew).setCells w.heap.size ((i + m) * 2) (cs.drop (i * 2)) := by
 have mixed : Try.prog.follows .mixedOrders = true := by kernel_rfl
 obtain ⟨i0, hi0, hzz⟩ := Option.map_eq_some_iff.1 info41
 simp only [Prod.mk.injEq] at hzz
 obtain ⟨hz0, hzs, hzb⟩ := hzz
 have hz1 : ¬ ((m : Int) = 0) := by omega
 have hz2 : ¬ ((i : Int) = (n : Int)) := by omega
 have hz3 : (c : Int) < (n : Int) + (m : Int) := by omega
 have hsz : (Try.prog.info? 41).map (·.size) = some 2 := by rw [hi0]; simp [hzs]
 have hbw : b < w.heap.size := block_lt_of_cell (hcs 0 _ (List.getElem?_eq_getElem (by omega)))
 have hvw : vb < w.heap.size := block_lt_of_cell (hvs 0 _ (List.getElem?_eq_getElem (by omega)))
 have hkk : (n : Int) + (m : Int) - (i : Int) = ((n + m - i : Nat) : Int) := by omega
 have hik : i + (n + m - i) = n + m := by omega
 have hold : (Builtin.firstCells i0.size i (.slice (some ⟨b, 0, none⟩) i c)).run Try.prog w.drew = .ok (cs.take (i * 2)).toArray w.drew := by
  rw [hzs]
  exact run_firstCells_some w.drew 2 i ⟨b, 0, none⟩ i c (cs.take (i * 2)) (by rw [List.length_take]; omega) (fun j v hj => by
   rw [Addr.add_lit, Nat.zero_add]
   rw [List.getElem?_take] at hj
   split at hj
   ·exact hcs j v hj
   ·cases hj)
 have hrz : ∀ ty, (Builtin.append_ #[23, 3] ty #[.slice (some ⟨b, 0, none⟩) i c, .int .i64 ((n : Int) + (m : Int) - (i : Int))]).run Try.prog w =
   .ok (.slice (some ⟨w.heap.size, 0, none⟩) (n + m) (grownCap w (n + m) c 41)) (w.drew.alloc (.cells ((cs.take (i * 2)).toArray ++ Builtin.zeroCells ((.agg #[(.int .i64 0), (.int .i64 0)]) : Value).cells (n + m - i) ++ Builtin.zeroCells ((.agg #[(.int .i64 0), (.int .i64 0)]) : Value).cells (grownCap w (n + m) c 41 - (n + m))) 41)) := fun ty => by
  have h := Lib.run_append_grow_zeros w 23 3 ty 41 i0 _ .i64 .i64 Try.underlying23 Try.underlying3 hi0 hz0 (some ⟨b, 0, none⟩) i c (cs.take (i * 2)) hold (n + m - i) (by omega) (by rw [hzs]; omega) (by omega) (by omega) (by rw [hzb]; omega) (by rw [hzb, hik]; exact growslice_fits hroom (by omega))
  rw [hik] at h
  rw [hkk]
  exact h
 obtain ⟨G, hG⟩ : ∃ G, G = grownCap w (n + m) c 41 := ⟨_, rfl⟩
 obtain ⟨ROW, hROW⟩ : ∃ ROW : Array Value, ROW = (cs.take (i * 2)).toArray ++ Builtin.zeroCells ((.agg #[(.int .i64 0), (.int .i64 0)]) : Value).cells (n + m - i) ++ Builtin.zeroCells ((.agg #[(.int .i64 0), (.int .i64 0)]) : Value).cells (G - (n + m)) := ⟨_, rfl⟩
 rw [← hG] at hrz
 rw [← hROW] at hrz
 have hRl : (n + m) * 2 ≤ ROW.size := by
  rw [hROW]
  simp [Builtin.zeroCells, Value.cells]
  omega
 obtain ⟨W1, hW1⟩ : ∃ W1, W1 = w.drew.alloc (.cells ROW 41) := ⟨_, rfl⟩
 rw [← hW1] at hrz
 have hN : ∀ j, j < (n + m) * 2 → (W1.cell? ⟨w.heap.size, j, none⟩).isSome = true := fun j hj => by
  rw [hW1, World.cell?_alloc_at (w := w.drew) ROW _ w.heap.size j rfl, Array.getElem?_eq_getElem (by omega)]; rfl
 have hNf : ∀ j, W1.frozen? ⟨w.heap.size, j, none⟩ = false := fun j => by rw [hW1]; exact World.frozen?_alloc_at (w := w.drew) ROW _ w.heap.size j rfl
 have hOb : ∀ j v, w.cell? ⟨b, j, none⟩ = some v → W1.cell? ⟨b, j, none⟩ = some v := fun j v h => by rw [hW1, World.cell?_alloc_past (w := w.drew) _ b j hbw]; exact h
 have hOv : ∀ j v, w.cell? ⟨vb, j, none⟩ = some v → W1.cell? ⟨vb, j, none⟩ = some v := fun j v h => by rw [hW1, World.cell?_alloc_past (w := w.drew) _ vb j hvw]; exact h
 have hcpA : ∀ (W : World), (∀ x, W.cell? x = W1.cell? x) → (∀ x, W.frozen? x = W1.frozen? x) → ∀ ty dc, (Builtin.copy_ #[23, 23] ty #[.slice (some ⟨w.heap.size, i * 2, none⟩) (n + m - i) dc, .slice (some ⟨vb, 0, none⟩) m vc]).run Try.prog W = .ok (goInt (Nat.min m (n + m - i))) (W.setCells w.heap.size (i * 2) vs) := fun W hWc hWf ty dc =>
  run_copy_cells_ W _ _ ty 41 2 w.heap.size (i * 2) (n + m - i) dc ⟨vb, 0, none⟩ m vc vs Try.underlying23 hsz (by rw [hvl]; congr 1; simp only [Nat.min_def]; split <;> omega)
   (fun j v hj => by rw [Addr.add_lit, Nat.zero_add, hWc]; exact hOv _ v (hvs j v hj))
   (fun j hj => by rw [hWc]; exact hN _ (by rw [hvl] at hj; omega)) (fun j hj => by rw [hWf]; exact hNf _) h1v
 have hGn : n + m ≤ G := by rw [hG]; exact grownCap_ge w _ _ _
 have hG63 : G ≤ 9223372036854775807 := by
  have := grownCap_le_maxLen w (n + m) c 41 (by unfold maxLen; omega)
  rw [← hG] at this
  unfold maxLen at this
  omega
 have hGi : ¬ (G = i) := by omega
 have hGim : ¬ (G = i + m) := by omega
 have hci : ¬ (c = i) := by omega
 have hbN : b ≠ w.heap.size := by omega
 have hdl : (cs.drop (i * 2)).length = (n - i) * 2 := by rw [List.length_drop, hcl]; omega
 have hcpB : ∀ (W : World), (∀ x, W.cell? x = (W1.setCells w.heap.size (i * 2) vs).cell? x) → (∀ x, W.frozen? x = (W1.setCells w.heap.size (i * 2) vs).frozen? x) → ∀ ty dc sc, (Builtin.copy_ #[23, 23] ty #[.slice (some ⟨w.heap.size, (i + m) * 2, none⟩) (n + m - (i + m)) dc, .slice (some ⟨b, i * 2, none⟩) (n - i) sc]).run Try.prog W = .ok (goInt (Nat.min (n - i) (n + m - (i + m)))) (W.setCells w.heap.size ((i + m) * 2) (cs.drop (i * 2))) := fun W hWc hWf ty dc sc =>
  run_copy_cells_ W _ _ ty 41 2 w.heap.size ((i + m) * 2) (n + m - (i + m)) dc ⟨b, i * 2, none⟩ (n - i) sc (cs.drop (i * 2)) Try.underlying23 hsz (by rw [hdl]; congr 1; simp only [Nat.min_def]; split <;> omega)
   (fun j v hj => by
    rw [Addr.add_lit, hWc, World.cell?_setCells_out _ _ _ _ _ (fun h _ => absurd h hbN)]
    exact hOb _ v (hcs (i * 2 + j) v (by rwa [List.getElem?_drop] at hj)))
   (fun j hj => by rw [hWc]; exact isSome_setCells_ _ _ _ _ _ (hN _ (by rw [hdl] at hj; omega)))
   (fun j hj => by rw [hWf, World.frozen?_setCells]; exact hNf _) (fun v hv => h1c v (List.mem_of_mem_drop hv))
 subst hW1
 have hE1 : ∀ x, ((w.alloc (.cells ROW 41)).drew).cell? x = (w.drew.alloc (.cells ROW 41)).cell? x := fun x => rfl
 have hE2 : ∀ x, ((w.alloc (.cells ROW 41)).drew).frozen? x = (w.drew.alloc (.cells ROW 41)).frozen? x := fun x => rfl
 have hF1 : ∀ x, (((w.alloc (.cells ROW 41)).drew.setCells w.heap.size (i * 2) vs).drew).cell? x = ((w.drew.alloc (.cells ROW 41)).setCells w.heap.size (i * 2) vs).cell? x := fun x => rfl
 have hF2 : ∀ x, (((w.alloc (.cells ROW 41)).drew.setCells w.heap.size (i * 2) vs).drew).frozen? x = ((w.drew.alloc (.cells ROW 41)).setCells w.heap.size (i * 2) vs).frozen? x := fun x => rfl
 have hw1 : IntKind.i64.wrap ((i : Int) + (m : Int)) = (i : Int) + (m : Int) := by rw [IntKind.wrap_i64]; omega
 have hb1 : (0 : Int) ≤ (i : Int) + (m : Int) := by omega
 have hin : i ≤ n := by omega
 have htn : ((i : Int) + (m : Int)).toNat = i + m := by omega
 have hb3 : (i : Int) ≤ (n : Int) := by omega
 have hres : ∀ e, e = Ending.returned (.slice (some ⟨w.heap.size, 0, none⟩) (n + m) G) → ∃ G', n + m ≤ G' ∧ G' ≤ 9223372036854775807 ∧ e = Ending.returned (.slice (some ⟨w.heap.size, 0, none⟩) (n + m) G') ∧ (((w.alloc (.cells ROW 41)).drew.setCells w.heap.size (i * 2) vs).drew).setCells w.heap.size ((i + m) * 2) (cs.drop (i * 2)) = (((w.alloc (.cells ((cs.take (i * 2)).toArray ++ Builtin.zeroCells ((.agg #[(.int .i64 0), (.int .i64 0)]) : Value).cells (n + m - i) ++ Builtin.zeroCells ((.agg #[(.int .i64 0), (.int .i64 0)]) : Value).cells (G' - (n + m))) 41)).drew.setCells w.heap.size (i * 2) vs).drew).setCells w.heap.size ((i + m) * 2) (cs.drop (i * 2)) := fun e he => ⟨G, hGn, hG63, he, by rw [hROW]⟩
 clear hkk hik hold hROW hG hRl
 go_enter Try.func86, Try.ntmps86
 go_wp2_with (first
  | (at_builtin; refine Lib.wpList_append_run _ rfl _ _ _ _ rfl _ _ rfl rfl _ _ (hrz _) ?_)
  | (at_builtin; refine wpList_copy_runI_ _ rfl _ _ 23 23 rfl _ _ rfl rfl (hcpA _ hE1 hE2 _ _) ?_)
  | (at_builtin; refine wpList_copy_runI_ _ rfl _ _ 23 23 rfl _ _ rfl rfl (hcpB _ (fun _ => rfl) (fun _ => rfl) _ _ _) ?_))
 go_region_law_o (refine step_copy_runI_ rfl _ _ 23 23 rfl (.slice (some ⟨w.heap.size, (i + m) * 2, none⟩) (n + m - (i + m)) (G - (i + m))) (.slice (some ⟨b, i * 2, none⟩) (n - i) (c - i)) (by simp [Act.eval, Act.put]) (by simp [Act.eval, Act.put]) (hcpB _ hF1 hF2 3 (G - (i + m)) (c - i)) ?_)
 go_wp2
 go_ret
 exact hres _ rfl
theorem ins_reps_app {α : Type} {R : α → List Value → Prop} {sz : Nat} {xs ys : List α} {cs ds : List Value} (h : Reps R sz xs cs) (k : Reps R sz ys ds) : Reps R sz (xs ++ ys) (cs ++ ds) := by
 refine ⟨by rw [List.length_append, h.1, k.1, List.length_append, Nat.add_mul], fun j p hj => ?_⟩
 rcases Nat.lt_or_ge j xs.length with hl | hl
 ·rw [List.getElem?_append_left hl] at hj
  have h1 : j * sz + sz ≤ cs.length := by rw [h.1, ← Nat.succ_mul]; exact Nat.mul_le_mul_right _ hl
  rw [List.drop_append_of_le_length (by omega), List.take_append_of_le_length (by rw [List.length_drop]; omega)]
  exact h.2 j p hj
 ·rw [List.getElem?_append_right hl] at hj
  have e : j * sz = cs.length + (j - xs.length) * sz := by rw [h.1, ← Nat.add_mul]; congr 1; omega
  rw [e, List.drop_append]
  have hd : cs.drop (cs.length + (j - xs.length) * sz) = [] := List.drop_eq_nil_of_le (by omega)
  rw [hd, List.nil_append, show cs.length + (j - xs.length) * sz - cs.length = (j - xs.length) * sz by omega]
  exact k.2 _ p hj
theorem ins_reps_one {α : Type} {R : α → List Value → Prop} {sz : Nat} (hz : 0 < sz) {xs : List α} {cs : List Value} (h : Reps R sz xs cs) (h1 : ∀ p c, R p c → ∀ u ∈ c, u.oneCell' = true) : ∀ u ∈ cs, u.oneCell' = true := by
 intro u hu
 obtain ⟨j, hj, rfl⟩ := List.mem_iff_getElem.1 hu
 have hq : j / sz < xs.length := by rw [Nat.div_lt_iff_lt_mul hz, ← h.1]; exact hj
 refine h1 _ _ (h.2 (j / sz) _ (List.getElem?_eq_getElem hq)) _ ?_
 have hm : j / sz * sz + j % sz = j := by rw [Nat.mul_comm]; exact Nat.div_add_mod j sz
 have hlt := Nat.mod_lt j hz
 refine List.mem_iff_getElem?.2 ⟨j % sz, ?_⟩
 rw [List.getElem?_take, if_pos hlt, List.getElem?_drop, hm]
 exact List.getElem?_eq_getElem hj
theorem ins_M {α : Type} {d : Kd α} (hE : d.E = []) {w w' : World} {base : Nat} {ok ok' : Nat → Prop} {x : α} {cs : List Value} (h : d.M w base ok x cs) : d.M w' base ok' x cs := by
 have hF : ∀ k, (ok k ∧ base ≤ k ∧ k < w.heap.size ∧ ∃ q, q ∈ d.E ∧ ∃ cells, w.heap[k]? = some (.cells cells q (0, 0))) → False := by
  rintro k ⟨_, _, _, q, hq, _⟩
  rw [hE] at hq
  cases hq
 exact d.M_mono (fun k hk => (hF k hk).elim) (d.M_move (fun k hk => (hF k hk).elim) (d.M_bound h))
/-- A row whose block holds, from its begin on, the cells of these elements. -/
theorem ins_row {α : Type} {d : Kd α} (hE : d.E = []) {e base g n c : Nat} {ok ok1 ok2 : Nat → Prop} {w1 w2 w' : World} {xs ys : List α} {cs ds : List Value} {cur : Array Value} (i m : Nat)
  (hx : Reps (d.M w1 base ok1) d.sz xs cs) (hy : Reps (d.M w2 base ok2) d.sz ys ds) (hh : w'.heap[g]? = some (.cells cur e (0, 0))) (hb : base ≤ g) (hg : ok g) (hn : xs.length = n) (hm : ys.length = m) (hi : i ≤ n) (hc : n + m ≤ c) (hcm : c ≤ 9223372036854775807) (hcs : cur.size = c * d.sz)
  (ht : cur.toList.take ((n + m) * d.sz) = cs.take (i * d.sz) ++ ds ++ cs.drop (i * d.sz)) :
  d.R e w' base ok (.slice (some ⟨g, 0, none⟩) (n + m) c) (xs.take i ++ ys ++ xs.drop i) := by
 have hl : (xs.take i ++ ys ++ xs.drop i).length = n + m := by simp only [List.length_append, List.length_take, List.length_drop]; omega
 have hr : Reps (d.M w' base (fun k => ok k ∧ some k ≠ (Value.slice (some ⟨g, 0, none⟩) (n + m) c).ownBlock)) d.sz (xs.take i ++ ys ++ xs.drop i) (cs.take (i * d.sz) ++ ds ++ cs.drop (i * d.sz)) := by
  refine ins_reps_app (ins_reps_app ?_ ?_) ?_
  ·exact (Kd.reps_take hx (by omega)).imp_ fun p q hp => ins_M hE hp
  ·exact hy.imp_ fun p q hp => ins_M hE hp
  ·exact (Kd.reps_drop hx).imp_ fun p q hp => ins_M hE hp
 refine ⟨fun k hk => ?_, _, ⟨?_, .inr ⟨g, c, cur, by rw [hl], hb, hh, by rw [hl]; exact hc, hcm, hcs, by rw [hl]; exact ht⟩⟩, hr⟩
 ·have : g = k := by simpa [Value.ownBlock] using hk
  rw [← this]; exact hg
 ·exact hr.1
theorem ins_shift {cur in0 in2 L1 L2 : List Value} {A M Nn : Nat} (hA : A ≤ Nn) (h0 : in0.length = Nn) (h2 : in2.length = M) (hc : Nn + M ≤ cur.length) (ht : cur.take Nn = in0)
  (e1 : L1 = cur.take (A + M) ++ in0.drop A ++ cur.drop (A + M + (in0.drop A).length)) (e2 : L2 = L1.take A ++ in2 ++ L1.drop (A + in2.length)) : L2.take (Nn + M) = in0.take A ++ in2 ++ in0.drop A := by
 have k1 : L1.take A = in0.take A := by
  rw [e1, List.append_assoc, List.take_append_of_le_length (by rw [List.length_take]; omega), List.take_take, Nat.min_eq_left (by omega), ← ht, List.take_take, Nat.min_eq_left hA]
 have k2 : L1.drop (A + M) = in0.drop A ++ cur.drop (A + M + (in0.drop A).length) := by
  rw [e1, List.append_assoc]
  exact List.drop_left' (by rw [List.length_take]; omega)
 rw [e2, h2, k1, k2, ← List.append_assoc]
 exact List.take_left' (by simp only [List.length_append, List.length_take, List.length_drop]; omega)
theorem ins_grow {R in0 in2 L1 L2 : List Value} {A M Nn : Nat} (hA : A ≤ Nn) (h0 : in0.length = Nn) (h2 : in2.length = M) (hc : Nn + M ≤ R.length) (ht : R.take A = in0.take A)
  (e1 : L1 = R.take A ++ in2 ++ R.drop (A + in2.length)) (e2 : L2 = L1.take (A + M) ++ in0.drop A ++ L1.drop (A + M + (in0.drop A).length)) : L2.take (Nn + M) = in0.take A ++ in2 ++ in0.drop A := by
 have k1 : L1.take (A + M) = in0.take A ++ in2 := by
  rw [e1, ht]
  exact List.take_left' (by simp only [List.length_append, List.length_take]; omega)
 rw [e2, k1]
 exact List.take_left' (by simp only [List.length_append, List.length_take, List.length_drop]; omega)
def insert_Change.f (l0 : List (S41)) (a1 : Int) (l2 : List (S41)) : Option (List (S41)) := if 0 ≤ a1 then (if a1 ≤ (l0.length : Int) then (if 0 < l2.length then (if l0.length + l2.length ≤ 1073741824 then some (l0.take (a1 : Int).toNat ++ l2 ++ l0.drop (a1 : Int).toNat) else none) else none) else none) else none
set_option maxHeartbeats 8000000 in
set_option maxRecDepth 100000 in
theorem insert_Change.calls (P0_ : Nat → Prop) (u9000_ : Value) (l0 : List (S41)) (a1 : Int) (P2_ : Nat → Prop) (u9001_ : Value) (l2 : List (S41)) (r1 : List (S41)) (w0 w : World) (hB : Below w0.heap.size w0 w) (ho0 : Kd.R k41 41 w w0.heap.size P0_ u9000_ l0) (hp0_2 : ∀ k_, P0_ k_ → ¬ P2_ k_) (ho2 : Kd.R k41 41 w w0.heap.size P2_ u9001_ l2) (hp2_0 : ∀ k_, P2_ k_ → ¬ P0_ k_) (h : insert_Change.f l0 a1 l2 = some r1) :
  Calls Try.prog 86 #[u9000_, .int .i64 a1, u9001_] w fun e w' => ∃ v0_ : Value, e = .returned v0_ ∧ Kd.R k41 41 w' w0.heap.size (fun k_ => ((P0_ k_ ∨ P2_ k_) ∨ w.heap.size ≤ k_)) v0_ r1 ∧ Below w0.heap.size w0 w' ∧ Kept w w' (fun k_ => (P0_ k_ ∨ P2_ k_)) := by
 unfold insert_Change.f at h
 by_cases h0 : 0 ≤ a1
 case neg => rw [if_neg h0] at h; cases h
 by_cases h1 : a1 ≤ (l0.length : Int)
 case neg => rw [if_pos h0, if_neg h1] at h; cases h
 by_cases h2 : 0 < l2.length
 case neg => rw [if_pos h0, if_pos h1, if_neg h2] at h; cases h
 by_cases h3 : l0.length + l2.length ≤ 1073741824
 case neg => rw [if_pos h0, if_pos h1, if_pos h2, if_neg h3] at h; cases h
 rw [if_pos h0, if_pos h1, if_pos h2, if_pos h3] at h
 obtain rfl := Option.some.inj h
 clear h
 obtain ⟨i, rfl⟩ := Int.eq_ofNat_of_zero_le h0
 rw [Int.toNat_natCast]
 have hE : (k41).E = [] := rfl
 have hsz : (k41).sz = 2 := rfl
 have hM1 : ∀ {ww : World} {bb : Nat} {okk : Nat → Prop} (p : S41) (c : List Value), (k41).M ww bb okk p c → ∀ u ∈ c, u.oneCell' = true := fun p c hp => (k41).K_one ((k41).K_of_M hp)
 obtain ⟨hP2, in2, ho2', hr2⟩ := ho2
 obtain ⟨hl2, hcase2⟩ := ho2'
 rcases hcase2 with ⟨_, hz⟩ | ⟨vb, vc, curv, rfl, hvb, hhv, hvn, hvm, hvs, hvt⟩
 ·omega
 obtain ⟨hP0, in0, ho0', hr0⟩ := ho0
 obtain ⟨hl0, hcase0⟩ := ho0'
 have h1v := ins_reps_one (by rw [hsz]; omega) hr2 (fun p c hp => hM1 p c hp)
 have h1c := ins_reps_one (by rw [hsz]; omega) hr0 (fun p c hp => hM1 p c hp)
 have hpv := hP2 vb (by simp [Value.ownBlock])
 have cellv : ∀ j v, in2[j]? = some v → w.cell? ⟨vb, j, none⟩ = some v := fun j v hj => by
  rw [cell_of_row w vb j curv 41 (0, 0) hhv, ← Array.getElem?_toList]
  have := hj
  rw [← hvt, List.getElem?_take] at this
  split at this
  ·exact this
  ·cases this
 have lenv : in2.length = l2.length * 2 := hr2.1
 have len0 : in0.length = l0.length * 2 := hr0.1
 -- a new row
 have newRow : ∀ (G : Nat) (W : World) (cur : Array Value), W.os = w.os → W.tape = w.tape → W.output = w.output → W.heap.size = w.heap.size + 1 → (∀ k, k < w.heap.size → W.heap[k]? = w.heap[k]?) → W.heap[w.heap.size]? = some (.cells cur 41 (0, 0)) →
   l0.length + l2.length ≤ G → G ≤ 9223372036854775807 → cur.size = G * 2 → cur.toList.take ((l0.length + l2.length) * 2) = in0.take (i * 2) ++ in2 ++ in0.drop (i * 2) →
   Kd.R k41 41 W w0.heap.size (fun k_ => ((P0_ k_ ∨ P2_ k_) ∨ w.heap.size ≤ k_)) (.slice (some ⟨w.heap.size, 0, none⟩) (l0.length + l2.length) G) (l0.take i ++ l2 ++ l0.drop i) ∧ Below w0.heap.size w0 W ∧ Kept w W (fun k_ => (P0_ k_ ∨ P2_ k_)) := by
  intro G W cur e1 e2 e3 e4 e5 e6 hG hG2 hcs ht
  have hb : Below w.heap.size w W := ⟨e1, e2, e3, by omega, e5⟩
  exact ⟨ins_row hE i l2.length hr0 hr2 e6 hB.size (.inr (Nat.le_refl _)) rfl rfl (by omega) hG hG2 hcs ht, below_step hB hb, Kept.of_below hb _⟩
 rcases hcase0 with ⟨rfl, hz0⟩ | ⟨g, c, cur, rfl, hgb, hh, hnc, hcm, hcs, ht⟩
 ·-- nil
  have e0 : l0 = [] := List.eq_nil_of_length_eq_zero hz0
  subst e0
  have ein : in0 = [] := List.eq_nil_of_length_eq_zero (by simpa using len0)
  subst ein
  obtain rfl : i = 0 := by simpa using h1
  refine (impl_Change_86.end_grow none 0 0 vb l2.length vc [] in2 w h2 (Nat.le_refl _) (by omega) (by simp at h3; omega) rfl lenv (fun _ => rfl) (fun a ha => by cases ha) cellv h1v).mono ?_
  rintro e w' ⟨G, hG1, hG2, rfl, rfl⟩
  refine ⟨_, rfl, newRow G _ (([] ++ in2).toArray ++ Builtin.zeroCells ((.agg #[(.int .i64 0), (.int .i64 0)]) : Value).cells (G - (0 + l2.length))) rfl rfl rfl (by simp) (fun k hk => (ba_ (Below.refl w.heap.size w) _).block k hk) (heap_alloc_new w.drew _) hG1 hG2 ?_ ?_⟩
  ·simp [Builtin.zeroCells, Value.cells, lenv]; omega
  ·simp [lenv]
 ·have hpg := hP0 g (by simp [Value.ownBlock])
  have hgv : vb ≠ g := fun e => hp0_2 g hpg (e ▸ hpv)
  have cell0 : ∀ j v, in0[j]? = some v → w.cell? ⟨g, j, none⟩ = some v := fun j v hj => by
   rw [cell_of_row w g j cur 41 (0, 0) hh, ← Array.getElem?_toList]
   have := hj
   rw [← ht, List.getElem?_take] at this
   split at this
   ·exact this
   ·cases this
  unfold maxLen at hcm hvm
  have hfz : ∀ j, w.frozen? ⟨g, j, none⟩ = false := fun j => blk_frozen hh j
  by_cases hroom : l0.length + l2.length ≤ c
  ·have hsp : ∀ j, j < (l0.length + l2.length) * 2 → (w.cell? ⟨g, j, none⟩).isSome = true := fun j hj => by
    rw [cell_of_row w g j cur 41 (0, 0) hh]
    have : j < cur.size := by
     rw [hcs, hsz]
     exact Nat.lt_of_lt_of_le hj (Nat.mul_le_mul_right _ hroom)
    simp [this]
   -- in place
   have inPlace : ∀ (W : World) (cur' : Array Value), W.heap[g]? = some (.cells cur' 41 (0, 0)) → cur'.size = cur.size → w.grownBy W (some g) → cur'.toList.take ((l0.length + l2.length) * 2) = in0.take (i * 2) ++ in2 ++ in0.drop (i * 2) →
     Kd.R k41 41 W w0.heap.size (fun k_ => ((P0_ k_ ∨ P2_ k_) ∨ w.heap.size ≤ k_)) (.slice (some ⟨g, 0, none⟩) (l0.length + l2.length) c) (l0.take i ++ l2 ++ l0.drop i) ∧ Below w0.heap.size w0 W ∧ Kept w W (fun k_ => (P0_ k_ ∨ P2_ k_)) := by
    intro W cur' e1 e2 hg e3
    refine ⟨ins_row hE i l2.length hr0 hr2 e1 hgb (.inl (.inl hpg)) rfl rfl (by omega) hroom hcm (by rw [e2, hcs]) e3, hB.grown hg hB.size (fun k hk => by injection hk with hk; subst hk; exact hgb), Kept.of_grown hg (Kept.refl w _) (fun k hk => by injection hk with hk; subst hk; exact .inl (.inl hpg))⟩
   by_cases hin : i < l0.length
   ·refine (impl_Change_86.shift g l0.length c i vb l2.length vc in0 in2 w hin h2 hroom hcm hgv len0 lenv cell0 hsp hfz cellv h1c h1v 41 41 curv.size cur.size (by simp [World.shape?, hhv]) (by simp [World.shape?, hh]) (by rw [hcs, hsz]; omega) (blk_frozen hhv 0) (blk_frozen hhv _)).mono ?_
    rintro e w' ⟨rfl, rfl⟩
    obtain ⟨c1, b1, b2, b3⟩ := setCells_row (in0.drop (i * 2)) ((i + l2.length) * 2) w.drew cur hh (by rw [List.length_drop, len0, hcs, hsz]; omega)
    obtain ⟨c2, d1, d2, d3⟩ := setCells_row in2 (i * 2) _ c1 b1 (by rw [b2, lenv, hcs, hsz]; omega)
    obtain ⟨s1, s2, s3, s4⟩ := setCells_same g (in0.drop (i * 2)) ((i + l2.length) * 2) w.drew
    obtain ⟨t1, t2, t3, t4⟩ := setCells_same g in2 (i * 2) (w.drew.setCells g ((i + l2.length) * 2) (in0.drop (i * 2)))
    refine ⟨_, rfl, inPlace _ c2 d1 (d2.trans b2) ⟨t1.trans s1, t2.trans s2, t3.trans s3, by rw [t4, s4]; exact Nat.le_refl _, fun k _ hk => (setCells_far _ _ k (fun he => hk (by rw [he]))).trans (setCells_far _ _ k (fun he => hk (by rw [he])))⟩ ?_⟩
    rw [d3, b3]
    have h1' : i ≤ l0.length := by omega
    have hcl : cur.toList.length = c * 2 := by rw [Array.length_toList, hcs, hsz]
    have hA : i * 2 ≤ l0.length * 2 := Nat.mul_le_mul_right _ h1'
    have hs := ins_shift (A := i * 2) (M := l2.length * 2) (Nn := l0.length * 2) hA len0 lenv (by rw [hcl, ← Nat.add_mul]; exact Nat.mul_le_mul_right _ hroom) (by rw [← hsz]; exact ht) (by rw [← Nat.add_mul]) rfl
    rw [← Nat.add_mul] at hs
    exact hs
   ·obtain rfl : i = l0.length := by omega
    refine (impl_Change_86.end_room g l0.length c vb l2.length vc in2 w h2 hroom hcm lenv hsp hfz cellv h1v).mono ?_
    rintro e w' ⟨rfl, rfl⟩
    obtain ⟨c2, d1, d2, d3⟩ := setCells_row in2 (l0.length * 2) w cur hh (by rw [lenv, hcs, hsz]; omega)
    obtain ⟨t1, t2, t3, t4⟩ := setCells_same g in2 (l0.length * 2) w
    refine ⟨_, rfl, inPlace _ c2 d1 d2 ⟨t1, t2, t3, by rw [t4]; exact Nat.le_refl _, fun k _ hk => setCells_far _ _ k (fun he => hk (by rw [he]))⟩ ?_⟩
    rw [d3]
    have hcl : cur.toList.length = c * 2 := by rw [Array.length_toList, hcs, hsz]
    have htk : cur.toList.take (l0.length * 2) = in0 := by rw [← hsz]; exact ht
    rw [htk, ← len0, List.take_length, List.drop_length, List.append_nil, List.take_left' (by rw [List.length_append, len0, lenv, ← Nat.add_mul])]
  ·by_cases hin : i < l0.length
   ·refine (impl_Change_86.grow g l0.length c i vb l2.length vc in0 in2 w hin h2 hnc (by omega) (by omega) len0 lenv cell0 cellv h1c h1v).mono ?_
    rintro e w' ⟨G, hG1, hG2, rfl, rfl⟩
    obtain ⟨ROW, hROW⟩ : ∃ ROW : Array Value, ROW = (in0.take (i * 2)).toArray ++ Builtin.zeroCells ((.agg #[(.int .i64 0), (.int .i64 0)]) : Value).cells (l0.length + l2.length - i) ++ Builtin.zeroCells ((.agg #[(.int .i64 0), (.int .i64 0)]) : Value).cells (G - (l0.length + l2.length)) := ⟨_, rfl⟩
    rw [← hROW]
    have hRs : ROW.size = G * 2 := by
     rw [hROW]
     simp [Builtin.zeroCells, Value.cells, len0]
     omega
    have hh1 : ((w.alloc (.cells ROW 41)).drew).heap[w.heap.size]? = some (.cells ROW 41 (0, 0)) := heap_alloc_new w _
    have hA : i * 2 ≤ l0.length * 2 := Nat.mul_le_mul_right _ (by omega)
    have hGs : (l0.length + l2.length) * 2 ≤ G * 2 := Nat.mul_le_mul_right _ hG1
    rw [Nat.add_mul] at hGs
    obtain ⟨c1, b1, b2, b3⟩ := setCells_row in2 (i * 2) _ ROW hh1 (by rw [lenv, hRs]; omega)
    obtain ⟨c2, d1, d2, d3⟩ := setCells_row (in0.drop (i * 2)) ((i + l2.length) * 2) ((w.alloc (.cells ROW 41)).drew.setCells w.heap.size (i * 2) in2).drew c1 b1 (by rw [b2, hRs, List.length_drop, len0, Nat.add_mul]; omega)
    obtain ⟨s1, s2, s3, s4⟩ := setCells_same w.heap.size in2 (i * 2) (w.alloc (.cells ROW 41)).drew
    obtain ⟨t1, t2, t3, t4⟩ := setCells_same w.heap.size (in0.drop (i * 2)) ((i + l2.length) * 2) ((w.alloc (.cells ROW 41)).drew.setCells w.heap.size (i * 2) in2).drew
    refine ⟨_, rfl, newRow G _ c2 (t1.trans s1) (t2.trans s2) (t3.trans s3) (t4.trans (s4.trans (by simp))) (fun k hk => (setCells_far _ _ k (Nat.ne_of_lt hk)).trans ((setCells_far _ _ k (Nat.ne_of_lt hk)).trans ((ba_ (Below.refl _ _) _).block k hk))) d1 hG1 hG2 (by rw [d2, b2, hRs]) ?_⟩
    rw [d3, b3]
    have hs := ins_grow (A := i * 2) (M := l2.length * 2) (Nn := l0.length * 2) (R := ROW.toList) hA len0 lenv (by have : ROW.toList.length = ROW.size := Array.length_toList; omega) (by
     rw [hROW, Array.toList_append, Array.toList_append, List.append_assoc]
     exact List.take_left' (by simp [len0]; omega)) rfl (by rw [← Nat.add_mul])
    rw [← Nat.add_mul] at hs
    exact hs
   ·obtain rfl : i = l0.length := by omega
    refine (impl_Change_86.end_grow (some ⟨g, 0, none⟩) l0.length c vb l2.length vc in0 in2 w h2 hnc (by omega) (by omega) len0 lenv (fun h => by cases h) (fun a ha j v hj => by injection ha with ha; subst ha; rw [add_plain]; exact cell0 j v hj) cellv h1v).mono ?_
    rintro e w' ⟨G, hG1, hG2, rfl, rfl⟩
    refine ⟨_, rfl, newRow G _ _ rfl rfl rfl (by simp) (fun k hk => (ba_ (Below.refl w.heap.size w) _).block k hk) (heap_alloc_new w.drew _) hG1 hG2 ?_ ?_⟩
    ·simp [Builtin.zeroCells, Value.cells, len0, lenv]; omega
    ·rw [← len0, List.take_length, List.drop_length, List.append_nil, Array.toList_append]
     exact List.take_left' (by simp [len0, lenv]; omega)

end Go.Proofs.Ytgeipgflhjakjaa.PFnTempoChanges
