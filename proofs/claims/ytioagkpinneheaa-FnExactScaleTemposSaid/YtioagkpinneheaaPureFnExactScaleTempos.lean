/- The plain side of the law FnExactScaleTempos: lists and numbers alone. -/
import Derived.Test.YtioagkpinneheaaPFnExactScaleTemposx6
import Derived.Test.YtioagkpinneheaaGlue
import Derived.Test.YtioagkpinneheaaTot
set_option linter.unusedVariables false
set_option linter.unusedSimpArgs false
namespace Go.Proofs.Ytioagkpinneheaa.Pure
open Go.RowKit Go.Proofs.Ytioagkpinneheaa.PFnExactScaleTempos Go.Proofs.YtioagkpinneheaaW.PrintWords Go.Proofs.YtioagkpinneheaaW.PrintMore Go.Proofs.Ytioagkpinneheaa.Tot

theorem l1In_eq (a b c : Int) : spec_l1In.f a b c = some (decide (b ≤ a ∧ a ≤ c)) := by
  unfold spec_l1In.f
  by_cases h : b ≤ a <;> simp [h]

def cvChange (x : S88) : S85 := ⟨x.f0, x.f1⟩
theorem toChangeS (l : List S88) (hl : l.length ≤ 1048576) : Tot (fun k => laws_toChangeS.f k l) (fun r => r = l.map cvChange) := by
  unfold laws_toChangeS.f
  refine tpos (by omega) (tpos (by omega) ?_)
  have key := trec (σ := List S85 × Int) (fun s k => laws_toChangeS.l0 k l s.1 s.2) (fun s => ((l.length : Int) - s.2).toNat)
    (fun s => 0 ≤ s.2 ∧ s.2 ≤ (l.length : Int) ∧ s.1.length = l.length ∧ ∀ j : Int, 0 ≤ j → j < s.2 → s.1.getD j.toNat z85 = cvChange (l.getD j.toNat z88)) (fun _ r => r = l.map cvChange) ?_
  · exact key (List.replicate (l.length : Int).toNat z85, 0) ⟨Int.le_refl _, by dsimp only; omega, by simp, fun j h0 h1 => by dsimp only at h1; omega⟩
  · rintro ⟨ys, i⟩ ⟨h0, h1, h2, h3⟩ ih
    dsimp only at h0 h1 h2 h3
    simp only [laws_toChangeS.l0, laws_toChange.f, Option.bind_some]
    refine tite (fun c => ?_) (fun c => ?_)
    · refine tpos h0 (tpos (by omega) ?_)
      rw [wrap64_id (by omega) (by omega)]
      refine ih (_, i + 1) ⟨by dsimp only; omega, by dsimp only; omega, by simp [h2], ?_⟩ (by dsimp only; omega)
      intro j hj0 hj1
      dsimp only at hj1 ⊢
      by_cases e : j = i
      · subst e; rw [ld_set_self _ _ (by omega) hj0]; rfl
      · rw [ld_set_ne _ _ _ h0 hj0 (by omega)]; exact h3 j hj0 (by omega)
    · exact tsome (write_end h2 (fun j a b => h3 j a (by omega)))

theorem eqChangeS (l : List S85) (hl : l.length ≤ 1048576) : Tot (fun k => laws_eqChangeS.f k l l) (fun r => r = true) := by
  unfold laws_eqChangeS.f
  refine tpos rfl ?_
  refine trec (σ := Int) (fun i k => laws_eqChangeS.l0 k l l i) (fun i => ((l.length : Int) - i).toNat) (fun i => 0 ≤ i ∧ i ≤ (l.length : Int)) (fun _ r => r = true) ?_ 0 ⟨Int.le_refl _, by omega⟩
  rintro i ⟨h0, h1⟩ ih
  simp only [laws_eqChangeS.l0, laws_eqChange.f, if_true, Option.bind_some]
  refine tite (fun c => ?_) (fun c => tsome rfl)
  refine tpos h0 (tpos (by omega) ?_)
  rw [wrap64_id (by omega) (by omega)]
  exact ih (i + 1) ⟨by omega, by omega⟩ (by (try dsimp only); omega)

theorem szChangeS (l : List S88) (n : Int) (hn : 0 ≤ n) (hn2 : n ≤ 1048576) (hl : l.length ≤ 9223372036854775807) : laws_szChangeS.f l n = some (if n < l.length then -1 else n - l.length) := by
  unfold laws_szChangeS.f
  simp (disch := omega) only [wrap64_id]
  by_cases h : n < l.length
  · rw [if_pos (by omega), if_pos h]
  · rw [if_neg (by omega), if_neg h]

def OkChange (x : S85) : Prop := 0 ≤ x.f0 ∧ x.f0 ≤ 2000 ∧ 1000 ≤ x.f1 ∧ x.f1 ≤ 1000000
theorem teChange_eq (a b : Int) : spec_teChange.f a b = some (decide (0 ≤ a ∧ a ≤ 2000 ∧ 1000 ≤ b ∧ b ≤ 1000000)) := by
  unfold spec_teChange.f
  simp only [l1In_eq, Option.bind_some, decide_eq_true_eq]
  split
  · congr 1; rw [Bool.eq_iff_iff]; simp only [decide_eq_true_eq]; omega
  · congr 1; rw [Bool.eq_iff_iff]; simp only [decide_eq_true_eq]; simp; omega
theorem isChange_eq (a b : Int) : impl_isChange.f a b = some (decide (0 ≤ a ∧ a ≤ 2000 ∧ 1000 ≤ b ∧ b ≤ 1000000)) := by
  unfold impl_isChange.f
  by_cases h1 : 0 ≤ a <;> by_cases h2 : a ≤ 2000 <;> by_cases h3 : 1000 ≤ b <;> simp [h1, h2, h3] <;> omega
def TeC (l : List S85) (j : Int) : Prop := OkChange (rd_T85 l j) ∧ (j = 0 → (rd_T85 l j).f0 = 0) ∧ (0 < j → (rd_T85 l (j - 1)).f0 < (rd_T85 l j).f0)
def TeGood (l : List S85) : Prop := (∀ j : Int, 0 ≤ j → j < (l.length : Int) → TeC l j) ∧ (1 ≤ (l.length : Int) ∧ (l.length : Int) ≤ 20)
theorem teGood_tot (l : List S85) (hl : l.length ≤ 1048576) : Tot (fun k => spec_teGood.f k l) (fun b => (b = true) ↔ TeGood l) := by
  unfold spec_teGood.f
  refine trec (σ := Int) (fun i k => spec_teGood.l0 k l l (l.length : Int) i) (fun i => ((l.length : Int) - i).toNat) (fun i => 0 ≤ i ∧ i ≤ (l.length : Int))
    (fun i b => (b = true) ↔ ((∀ j : Int, i ≤ j → j < (l.length : Int) → TeC l j) ∧ (1 ≤ (l.length : Int) ∧ (l.length : Int) ≤ 20))) ?_ 0 ⟨Int.le_refl _, by omega⟩
  rintro i ⟨h0, h1⟩ ih
  simp only [spec_teGood.l0, teChange_eq, l1In_eq, Option.bind_some, decide_eq_true_eq]
  simp only [show wrap64 (i + 1) = i + 1 from wrap64_id (by omega) (by omega), show wrap64 (i - 1) = i - 1 from wrap64_id (by omega) (by omega)]
  repeat' (refine tite (fun _ => ?_) (fun _ => ?_))
  all_goals first
    | (exfalso; omega)
    | exact tsome (all_no (by omega) (by unfold TeC OkChange; omega))
    | exact tmono (ih (i + 1) ⟨by omega, by omega⟩ (by (try dsimp only); omega)) (fun b hb => all_go (by omega) (by unfold TeC OkChange; omega) hb)
    | exact tsome (all_end (by omega) (by simp only [decide_eq_true_eq]))
theorem areTempos_tot (l : List S85) (hl : l.length ≤ 1048576) : Tot (fun k => impl_AreTempos.f k l) (fun b => (b = true) ↔ TeGood l) := by
  have key : 1 ≤ (l.length : Int) → (l.length : Int) ≤ 20 → (rd_T85 l 0).f0 = 0 → Tot (fun k => impl_AreTempos.l0 k l l (l.length : Int) 0) (fun b => (b = true) ↔ TeGood l) := by
    intro g1 g2 g3
    refine tmono (trec (σ := Int) (fun i k => impl_AreTempos.l0 k l l (l.length : Int) i) (fun i => ((l.length : Int) - i).toNat) (fun i => 0 ≤ i ∧ i ≤ (l.length : Int))
      (fun i b => (b = true) ↔ ((∀ j : Int, i ≤ j → j < (l.length : Int) → TeC l j) ∧ True)) ?_ 0 ⟨Int.le_refl _, by omega⟩) (fun b hb => ?_)
    · rintro i ⟨h0, h1⟩ ih
      have g4 : i = 0 → (rd_T85 l i).f0 = 0 := by rintro rfl; exact g3
      simp only [impl_AreTempos.l0, isChange_eq, Option.bind_some, decide_eq_true_eq]
      simp only [show wrap64 (i + 1) = i + 1 from wrap64_id (by omega) (by omega), show wrap64 (i - 1) = i - 1 from wrap64_id (by omega) (by omega)]
      repeat' (refine tite (fun _ => ?_) (fun _ => ?_))
      all_goals first
        | (exfalso; omega)
        | exact tsome (all_no (by omega) (by unfold TeC OkChange; omega))
        | exact tmono (ih (i + 1) ⟨by omega, by omega⟩ (by (try dsimp only); omega)) (fun b hb => all_go (by omega) (by unfold TeC OkChange; omega) hb)
        | exact tsome (all_end (by omega) (by simp))
    · rw [hb]; unfold TeGood
      exact ⟨fun h => ⟨h.1, g1, g2⟩, fun h => ⟨h.1, trivial⟩⟩
  have no : ∀ g : Nat → Option Bool, (∀ k, g k = impl_AreTempos.j0 k l true) → ¬ TeGood l → Tot g (fun b => (b = true) ↔ TeGood l) := by
    intro g hg hn
    refine tstep (tconst (r := false) (fun k => ?_) ⟨fun h => by simp at h, fun h => absurd h hn⟩)
    rw [hg]; simp only [impl_AreTempos.j0, if_true]
  unfold impl_AreTempos.f
  refine tite (fun c => no _ (fun _ => rfl) (fun h => by have := h.2; omega)) (fun c1 => ?_)
  refine tite (fun c => no _ (fun _ => rfl) (fun h => by have := h.2; omega)) (fun c2 => ?_)
  refine tpos (by omega) ?_
  by_cases h : (rd_T85 l 0).f0 = 0
  · rw [show ((rd_T85 l 0).f0 != 0) = false by simp [h]]
    refine tstep ?_
    simp only [impl_AreTempos.j0]
    exact tneg (by simp) (key (by omega) (by omega) h)
  · rw [show ((rd_T85 l 0).f0 != 0) = true by simp [h]]
    exact no _ (fun _ => rfl) (fun g => h ((g.1 0 (by omega) (by omega)).2.1 rfl))

def mkChange (j : Int) (n : Nat) : List S85 := (List.range n).map fun i : Nat => (⟨j + 2 * (i : Int) + 0, j + 2 * (i : Int) + 1⟩ : S85)
theorem mkChange_at (j : Int) (n : Nat) (i : Int) (h0 : 0 ≤ i) (h : i < n) : rd_T85 (mkChange j n) i = ⟨j + 2 * i + 0, j + 2 * i + 1⟩ := by
  obtain ⟨m, rfl⟩ := Int.eq_ofNat_of_zero_le h0
  have hm : m < n := by omega
  unfold rd_T85 mkChange
  simp [List.getD, hm]
theorem markChangeS (l : List S85) (j : Int) (hl : l.length ≤ 1048576) (hj : 0 ≤ j) (hj2 : j ≤ 1125899906842624) : Tot (fun k => laws_markChangeS.f k l j) (fun r => r = (j + 2 * (l.length : Int), mkChange j l.length)) := by
  unfold laws_markChangeS.f
  have key := trec (σ := List S85 × Int) (fun s k => laws_markChangeS.l0 k s.1 (j + 2 * s.2) s.2) (fun s => ((l.length : Int) - s.2).toNat)
    (fun s => 0 ≤ s.2 ∧ s.2 ≤ (l.length : Int) ∧ s.1.length = l.length ∧ ∀ i : Int, 0 ≤ i → i < s.2 → rd_T85 s.1 i = rd_T85 (mkChange j l.length) i) (fun _ r => r = (j + 2 * (l.length : Int), mkChange j l.length)) ?_
  · have h := key (l, 0) ⟨Int.le_refl _, by dsimp only; omega, rfl, fun i h0 h1 => by dsimp only at h1; omega⟩
    simpa using h
  · rintro ⟨ys, i⟩ ⟨h0, h1, h2, h3⟩ ih
    dsimp only at h0 h1 h2 h3
    simp only [laws_markChangeS.l0, Option.bind_some]
    refine tite (fun c => ?_) (fun c => ?_)
    · refine tpos h0 ?_
      have hi : i.toNat < ys.length := by omega
      have e : ∀ x : S85, rd_T85 (ys.set i.toNat x) i = x := fun x => by
        unfold rd_T85; exact ld_set_self x i (by omega) h0
      simp only [e, List.set_set, wrap64_id (x := j + 2 * i + 1) (by omega) (by omega), wrap64_id (x := j + 2 * i + 1 + 1) (by omega) (by omega)]
      rw [show j + 2 * i + 1 + 1 = j + 2 * (i + 1) by omega, wrap64_id (x := i + 1) (by omega) (by omega)]
      refine ih (_, i + 1) ⟨by dsimp only; omega, by dsimp only; omega, by simp [h2], ?_⟩ (by dsimp only; omega)
      intro p p0 p1
      dsimp only at p1 ⊢
      by_cases ep : p = i
      · subst ep
        rw [e, mkChange_at j _ p p0 (by omega)]
        congr 1 <;> omega
      · unfold rd_T85
        rw [ld_set_ne _ _ _ h0 p0 (by omega)]
        exact h3 p p0 (by omega)
    · obtain rfl : i = (l.length : Int) := by omega
      refine tsome ?_
      congr 1
      refine ld_ext (z := z85) (by simp [mkChange, h2]) (fun p p0 p1 => ?_)
      exact h3 p p0 (by omega)
theorem heldChangeS (j : Int) (n : Nat) (hn : n ≤ 1048576) (hj : 0 ≤ j) (hj2 : j ≤ 1125899906842624) : Tot (fun k => laws_heldChangeS.f k (mkChange j n) j) (fun r => r = j + 2 * (n : Int)) := by
  unfold laws_heldChangeS.f
  have hlen : ((mkChange j n).length : Int) = n := by simp [mkChange]
  have key := trec (σ := Int) (fun i k => laws_heldChangeS.l0 k (mkChange j n) (j + 2 * i) i) (fun i => ((n : Int) - i).toNat) (fun i => 0 ≤ i ∧ i ≤ (n : Int)) (fun _ r => r = j + 2 * (n : Int)) ?_ 0 ⟨Int.le_refl _, by omega⟩
  · simpa using key
  · rintro i ⟨h0, h1⟩ ih
    simp only [laws_heldChangeS.l0, hlen]
    refine tite (fun c => ?_) (fun c => ?_)
    · refine tpos h0 ?_
      simp only [mkChange_at j n i h0 c]
      simp only [wrap64_id (x := j + 2 * i + 1) (by omega) (by omega), wrap64_id (x := j + 2 * i + 1 + 1) (by omega) (by omega)]
      refine tpos (by first | trivial | omega) ?_
      refine tpos (by first | trivial | omega) ?_
      rw [show j + 2 * i + 1 + 1 = j + 2 * (i + 1) by omega, wrap64_id (x := i + 1) (by omega) (by omega)]
      exact ih (i + 1) ⟨by omega, by omega⟩ (by (try dsimp only); omega)
    · exact tsome (by omega)

theorem te_mono (l : List S85) (hg : TeGood l) (p q : Int) (p0 : 0 ≤ p) (h : p ≤ q) (hq : q < (l.length : Int)) : (rd_T85 l p).f0 ≤ (rd_T85 l q).f0 := by
  have key : ∀ (d : Nat) (j : Int), j = p + d → j < (l.length : Int) → (rd_T85 l p).f0 ≤ (rd_T85 l j).f0 := by
    intro d
    induction d with
    | zero => intro j e _; rw [show j = p by omega]; exact Int.le_refl _
    | succ d ih =>
      intro j e hj
      have h1 := ih (j - 1) (by omega) (by omega)
      have h2 := (hg.1 j (by omega) hj).2.2 (by omega)
      omega
  exact key (q - p).toNat q (by omega) hq
theorem te_lt (l : List S85) (hg : TeGood l) (p q : Int) (p0 : 0 ≤ p) (h : p < q) (hq : q < (l.length : Int)) : (rd_T85 l p).f0 < (rd_T85 l q).f0 := by
  have h1 := te_mono l hg p (q - 1) p0 (by omega) (by omega)
  have h2 := (hg.1 q (by omega) hq).2.2 (by omega)
  omega

def inpl {α : Type} (f : α → α) (l : List α) (i : Nat) : List α := (l.take i).map f ++ l.drop i
theorem inpl_len {α : Type} (f : α → α) (l : List α) (i : Nat) (h : i ≤ l.length) : (inpl f l i).length = l.length := by
  unfold inpl; simp; omega
theorem inpl_zero {α : Type} (f : α → α) (l : List α) : inpl f l 0 = l := by simp [inpl]
theorem inpl_end {α : Type} (f : α → α) (l : List α) : inpl f l l.length = l.map f := by simp [inpl]
theorem inpl_at {α : Type} (z : α) (f : α → α) (l : List α) (i : Nat) (h : i < l.length) : (inpl f l i).getD i z = l.getD i z := by
  unfold inpl
  have h1 : ((l.take i).map f).length = i := by simp; omega
  rw [List.getD, List.getElem?_append_right (by omega), h1, Nat.sub_self]
  simp [List.getD, h]
theorem inpl_set {α : Type} (z : α) (f : α → α) (l : List α) (i : Nat) (h : i < l.length) : (inpl f l i).set i (f (l.getD i z)) = inpl f l (i + 1) := by
  unfold inpl
  have h1 : ((l.take i).map f).length = i := by simp; omega
  rw [List.set_append_right _ _ (by omega), h1, Nat.sub_self, List.drop_eq_getElem_cons h, List.set_cons_zero, List.take_succ_eq_append_getElem h, List.map_append, List.append_assoc]
  simp [List.getD, h]
theorem take_up {α β : Type} (z : α) (f : α → β) (l : List α) (i : Nat) (h : i < l.length) : (l.take (i + 1)).map f = (l.take i).map f ++ [f (l.getD i z)] := by
  rw [List.take_succ_eq_append_getElem h, List.map_append]
  simp [List.getD, h]

theorem cloneChange (l : List S85) (hl : l.length ≤ 1048576) : clone_Change.f l = some l := by
  unfold clone_Change.f
  simp only [Option.bind_some]
  rw [if_pos (by simp; omega)]
  rfl

def scE (p : Int) (x : S85) : S85 := ⟨x.f0, (x.f1 * p + 50) / 100⟩
def scPost (l : List S85) (r : List S85 × Bool) : Prop := (TeGood l ∧ r = (l, true)) ∨ (¬ TeGood l ∧ r = ([], false))
theorem scPost.det {l : List S85} {r r' : List S85 × Bool} (h : scPost l r) (h' : scPost l r') : r = r' := by
  rcases h with ⟨x, e⟩ | ⟨x, e⟩ <;> rcases h' with ⟨x', e'⟩ | ⟨x', e'⟩
  · rw [e, e']
  · exact absurd x x'
  · exact absurd x' x
  · rw [e, e']
theorem teIf_tot (l : List S85) (hl : l.length ≤ 1048576) : Tot (fun k => spec_teIf.f k l) (fun r => scPost l r) := by
  unfold spec_teIf.f
  exact tbind (teGood_tot l hl) (fun b hb => tite (fun c => tsome (.inl ⟨hb.1 c, rfl⟩)) (fun c => tsome (.inr ⟨fun h => c (hb.2 h), rfl⟩)))
theorem sc_wrap {a p : Int} (a1 : 1000 ≤ a) (a2 : a ≤ 1000000) (p1 : 1 ≤ p) (p2 : p ≤ 400) : wrap64 (Int.tdiv (wrap64 ((wrap64 (a * p)) + 50)) 100) = (a * p + 50) / 100 := by
  have h1 : a * p ≤ 1000000 * p := Int.mul_le_mul_of_nonneg_right a2 (by omega)
  have h2 : 0 ≤ a * p := Int.mul_nonneg (by omega) (by omega)
  obtain ⟨q, hq⟩ : ∃ q, q = a * p := ⟨_, rfl⟩
  rw [← hq] at h1 h2 ⊢
  rw [wrap64_id (x := q) (by omega) (by omega), wrap64_id (x := q + 50) (by omega) (by omega), Int.tdiv_eq_ediv_of_nonneg (by omega), wrap64_id (by omega) (by omega)]
theorem specSc_tot (l : List S85) (hg : TeGood l) (p : Int) (p1 : 1 ≤ p) (p2 : p ≤ 400) : Tot (fun k => spec_ScaleTempos.l0 k p [] l (l.length : Int) 0) (fun r => scPost (l.map (scE p)) r) := by
  have hn := hg.2
  refine trec (σ := Nat) (fun i k => spec_ScaleTempos.l0 k p ((l.take i).map (scE p)) l (l.length : Int) (i : Int)) (fun i => l.length - i) (fun i => i ≤ l.length) (fun _ r => scPost (l.map (scE p)) r) ?_ 0 (Nat.zero_le _)
  intro i hi ih
  simp only [spec_ScaleTempos.l0, wrap64_id (x := (i : Int) + 1) (by omega) (by omega)]
  refine tite (fun c => ?_) (fun c => ?_)
  · have hc := (hg.1 i (by omega) c).1
    unfold OkChange at hc
    refine tpos (by omega) (tpos c (tpos (by simp; omega) ?_))
    rw [sc_wrap hc.2.2.1 hc.2.2.2 p1 p2]
    have h := ih (i + 1) (by omega) (by omega)
    rw [take_up z85 (scE p) l i (by omega)] at h
    simpa [scE, rd_T85] using h
  · obtain rfl : i = l.length := by omega
    rw [List.take_length]
    exact tbind (teIf_tot _ (by simp; omega)) (fun r hr => tsome hr)
theorem implSc_tot (l : List S85) (hg : TeGood l) (p : Int) (p1 : 1 ≤ p) (p2 : p ≤ 400) : Tot (fun k => impl_ScaleTempos.l0 k p l (l.length : Int) 0) (fun r => scPost (l.map (scE p)) r) := by
  have hn := hg.2
  have key := trec (σ := Nat) (fun i k => impl_ScaleTempos.l0 k p (inpl (scE p) l i) (l.length : Int) (i : Int)) (fun i => l.length - i) (fun i => i ≤ l.length) (fun _ r => scPost (l.map (scE p)) r) ?_ 0 (Nat.zero_le _)
  · rw [inpl_zero] at key
    exact key
  · intro i hi ih
    have hlen := inpl_len (scE p) l i hi
    simp only [impl_ScaleTempos.l0, wrap64_id (x := (i : Int) + 1) (by omega) (by omega)]
    refine tite (fun c => ?_) (fun c => ?_)
    · have hc := (hg.1 i (by omega) c).1
      unfold OkChange at hc
      have e : rd_T85 (inpl (scE p) l i) (i : Int) = rd_T85 l (i : Int) := by
        unfold rd_T85
        exact inpl_at _ (scE p) l i (by omega)
      refine tpos (by omega) (tpos (by omega) ?_)
      rw [e, sc_wrap hc.2.2.1 hc.2.2.2 p1 p2]
      have h := ih (i + 1) (by omega) (by omega)
      rw [← inpl_set z85 (scE p) l i (by omega)] at h
      simpa [scE, rd_T85] using h
    · obtain rfl : i = l.length := by omega
      rw [inpl_end]
      exact tbind (areTempos_tot _ (by simp; omega)) (fun b hb => tite (fun c => tsome (.inl ⟨hb.1 c, rfl⟩)) (fun c => tsome (.inr ⟨fun h => c (hb.2 h), rfl⟩)))
theorem scaleTempos_agree (l : List S85) (p : Int) (hl : l.length ≤ 1048576) : ∃ r, Tot (fun k => spec_ScaleTempos.f k l p) (fun y => y = r) ∧ Tot (fun k => impl_ScaleTempos.f k l p) (fun y => y = r) ∧ r.1.length ≤ 1048576 := by
  have sF : Tot (fun k => spec_ScaleTempos.j0 k l p true) (fun y => y = ([], false)) := by
    refine tstep ?_
    simp only [spec_ScaleTempos.j0, if_true]
    exact tsome rfl
  have iF : Tot (fun k => impl_ScaleTempos.j0 k l p true) (fun y => y = ([], false)) := by
    refine tstep ?_
    simp only [impl_ScaleTempos.j0, if_true]
    exact tsome rfl
  by_cases hg : TeGood l ∧ 1 ≤ p ∧ p ≤ 400
  · obtain ⟨hg, hp⟩ := hg
    obtain ⟨r, hr, hR⟩ := specSc_tot l hg p hp.1 hp.2
    refine ⟨r, ?_, ?_, ?_⟩
    · unfold spec_ScaleTempos.f
      refine tbind (teGood_tot l hl) (fun b h => tpos (h.2 hg) ?_)
      simp only [l1In_eq, Option.bind_some]
      rw [decide_eq_true hp, Bool.not_true]
      refine tstep ?_
      simp only [spec_ScaleTempos.j0]
      exact tneg (by simp) ⟨r, hr, rfl⟩
    · unfold impl_ScaleTempos.f
      refine tbind (areTempos_tot l hl) (fun b h => tpos (h.2 hg) (tneg (by omega) ?_))
      rw [decide_eq_false (show ¬ p > 400 by omega)]
      refine tstep ?_
      simp only [impl_ScaleTempos.j0, cloneChange l hl, Option.bind_some]
      exact tneg (by simp) (tmono (implSc_tot l hg p hp.1 hp.2) (fun y hy => hy.det hR))
    · rcases hR with ⟨_, rfl⟩ | ⟨_, rfl⟩ <;> simp
      exact hl
  · refine ⟨([], false), ?_, ?_, by simp⟩
    · unfold spec_ScaleTempos.f
      refine tbind (teGood_tot l hl) (fun b h => tite (fun c => ?_) (fun c => sF))
      simp only [l1In_eq, Option.bind_some]
      rw [decide_eq_false (fun hh => hg ⟨h.1 c, hh⟩), Bool.not_false]
      exact sF
    · unfold impl_ScaleTempos.f
      refine tbind (areTempos_tot l hl) (fun b h => tite (fun c => tite (fun c2 => iF) (fun c2 => ?_)) (fun c => iF))
      rw [decide_eq_true (show p > 400 from Classical.byContradiction fun hh => hg ⟨h.1 c, by omega⟩)]
      exact iF


theorem FnExactScaleTempos (l0 : List (S88)) (a1 : Int) (hm0 : l0.length ≤ 9223372036854775807) (hw0 : ∀ y ∈ l0, Glue.wf64 y.f0 ∧ Glue.wf64 y.f1) (w1 : Glue.wf64 a1) : ∃ k, laws_FnExactScaleTempos.f k l0 a1 = some true := by
  refine rounds ?_
  unfold laws_FnExactScaleTempos.f
  rw [szChangeS l0 (1048576 : Int) (by omega) (by omega) hm0]
  simp only [Option.bind_some]
  by_cases hl0 : (1048576 : Int) < (l0.length : Int)
  · simp only [if_pos hl0]; exact tpos (by omega) (tsome rfl)
  simp only [if_neg hl0]
  refine tneg (by omega) ?_
  obtain ⟨r, hS, hI, hR⟩ := scaleTempos_agree (l0.map cvChange) a1 (by simp; omega)
  repeat first
    | exact tsome rfl
    | (refine tbind hS (fun _ e => ?_); subst e)
    | (refine tbind hI (fun _ e => ?_); subst e)
    | (refine tbind (toChangeS l0 (by omega)) (fun _ e => ?_); subst e)
    | (refine tbind (eqChangeS _ (by first | omega | (dsimp only; omega) | (simp; omega) | assumption)) (fun _ e => ?_); subst e)
    | (refine tbind (eqChangeS _ (by first | assumption | omega | (dsimp only; omega) | (simp; omega))) (fun _ e => ?_); subst e)
    | (refine tbind (markChangeS _ 1 (by first | assumption | omega | (dsimp only; omega) | (simp; omega)) (by omega) (by omega)) (fun _ e => ?_); subst e)
    | (refine tbind (heldChangeS 1 _ (by first | omega | (simp; omega)) (by omega) (by omega)) (fun _ e => ?_); subst e)
    | (refine tbind (markChangeS _ _ (by first | omega | (simp; omega)) (by omega) (by omega)) (fun _ e => ?_); subst e)
    | refine tpos rfl ?_
    | refine tneg (by dsimp only; omega) ?_
    | refine tneg (by omega) ?_
    | refine tneg (by simp; done) ?_
    | refine tpos (by dsimp only) ?_
    | (refine tstep ?_; simp only [laws_FnExactScaleTempos.j0])
    | (refine tstep ?_; simp only [laws_FnExactScaleTempos.j1])
    | (refine tstep ?_; simp only [laws_FnExactScaleTempos.j2])
end Go.Proofs.Ytioagkpinneheaa.Pure
