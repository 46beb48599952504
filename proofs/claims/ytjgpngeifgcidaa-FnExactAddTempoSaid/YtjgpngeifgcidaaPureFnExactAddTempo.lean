/- The plain side of the law FnExactAddTempo: lists and numbers alone. -/
import Derived.Test.YtjgpngeifgcidaaPFnExactAddTempox8
import Derived.Test.YtjgpngeifgcidaaGlue
import Derived.Test.YtjgpngeifgcidaaTot
set_option linter.unusedVariables false
set_option linter.unusedSimpArgs false
namespace Go.Proofs.Ytjgpngeifgcidaa.Pure
open Go.RowKit Go.Proofs.Ytjgpngeifgcidaa.PFnExactAddTempo Go.Proofs.YtjgpngeifgcidaaW.PrintWords Go.Proofs.YtjgpngeifgcidaaW.PrintMore Go.Proofs.Ytjgpngeifgcidaa.Tot

theorem l1In_eq (a b c : Int) : spec_l1In.f a b c = some (decide (b ≤ a ∧ a ≤ c)) := by
  unfold spec_l1In.f
  by_cases h : b ≤ a <;> simp [h]

def cvChange (x : S42) : S48 := ⟨x.f0, x.f1⟩
theorem toChangeS (l : List S42) (hl : l.length ≤ 1048576) : Tot (fun k => laws_toChangeS.f k l) (fun r => r = l.map cvChange) := by
  unfold laws_toChangeS.f
  refine tpos (by omega) (tpos (by omega) ?_)
  have key := trec (σ := List S48 × Int) (fun s k => laws_toChangeS.l0 k l s.1 s.2) (fun s => ((l.length : Int) - s.2).toNat)
    (fun s => 0 ≤ s.2 ∧ s.2 ≤ (l.length : Int) ∧ s.1.length = l.length ∧ ∀ j : Int, 0 ≤ j → j < s.2 → s.1.getD j.toNat z48 = cvChange (l.getD j.toNat z42)) (fun _ r => r = l.map cvChange) ?_
  · exact key (List.replicate (l.length : Int).toNat z48, 0) ⟨Int.le_refl _, by dsimp only; omega, by simp, fun j h0 h1 => by dsimp only at h1; omega⟩
  · rintro ⟨ys, i⟩ ⟨h0, h1, h2, h3⟩ ih
    dsimp only at h0 h1 h2 h3
    simp only [laws_toChangeS.l0, laws_toChange.f, Option.bind_some]
    refine tite (fun c => ?_) (fun c => ?_)
    · refine tpos h0 (tpos (by omega) ?_)
      rw [wrap64_id (by omega) (by omega)]
      refine ih (_, i + 1) ⟨by dsimp only; omega, by dsimp only; omega, by simp [h2], ?_⟩ (by dsimp only; omega)
      intro j hj0 hj1
      dsimp only at hj1 ⊢
      by_cases e : j = i
      · subst e; rw [ld_set_self _ _ (by omega) hj0]; rfl
      · rw [ld_set_ne _ _ _ h0 hj0 (by omega)]; exact h3 j hj0 (by omega)
    · exact tsome (write_end h2 (fun j a b => h3 j a (by omega)))

theorem eqChangeS (l : List S48) (hl : l.length ≤ 1048576) : Tot (fun k => laws_eqChangeS.f k l l) (fun r => r = true) := by
  unfold laws_eqChangeS.f
  refine tpos rfl ?_
  refine trec (σ := Int) (fun i k => laws_eqChangeS.l0 k l l i) (fun i => ((l.length : Int) - i).toNat) (fun i => 0 ≤ i ∧ i ≤ (l.length : Int)) (fun _ r => r = true) ?_ 0 ⟨Int.le_refl _, by omega⟩
  rintro i ⟨h0, h1⟩ ih
  simp only [laws_eqChangeS.l0, laws_eqChange.f, if_true, Option.bind_some]
  refine tite (fun c => ?_) (fun c => tsome rfl)
  refine tpos h0 (tpos (by omega) ?_)
  rw [wrap64_id (by omega) (by omega)]
  exact ih (i + 1) ⟨by omega, by omega⟩ (by (try dsimp only); omega)

theorem szChangeS (l : List S42) (n : Int) (hn : 0 ≤ n) (hn2 : n ≤ 1048576) (hl : l.length ≤ 9223372036854775807) : laws_szChangeS.f l n = some (if n < l.length then -1 else n - l.length) := by
  unfold laws_szChangeS.f
  simp (disch := omega) only [wrap64_id]
  by_cases h : n < l.length
  · rw [if_pos (by omega), if_pos h]
  · rw [if_neg (by omega), if_neg h]

def OkChange (x : S48) : Prop := 0 ≤ x.f0 ∧ x.f0 ≤ 2000 ∧ 1000 ≤ x.f1 ∧ x.f1 ≤ 1000000
theorem teChange_eq (a b : Int) : spec_teChange.f a b = some (decide (0 ≤ a ∧ a ≤ 2000 ∧ 1000 ≤ b ∧ b ≤ 1000000)) := by
  unfold spec_teChange.f
  simp only [l1In_eq, Option.bind_some, decide_eq_true_eq]
  split
  · congr 1; rw [Bool.eq_iff_iff]; simp only [decide_eq_true_eq]; omega
  · congr 1; rw [Bool.eq_iff_iff]; simp only [decide_eq_true_eq]; simp; omega
theorem isChange_eq (a b : Int) : impl_isChange.f a b = some (decide (0 ≤ a ∧ a ≤ 2000 ∧ 1000 ≤ b ∧ b ≤ 1000000)) := by
  unfold impl_isChange.f
  by_cases h1 : 0 ≤ a <;> by_cases h2 : a ≤ 2000 <;> by_cases h3 : 1000 ≤ b <;> simp [h1, h2, h3] <;> omega
def TeC (l : List S48) (j : Int) : Prop := OkChange (rd_T48 l j) ∧ (j = 0 → (rd_T48 l j).f0 = 0) ∧ (0 < j → (rd_T48 l (j - 1)).f0 < (rd_T48 l j).f0)
def TeGood (l : List S48) : Prop := (∀ j : Int, 0 ≤ j → j < (l.length : Int) → TeC l j) ∧ (1 ≤ (l.length : Int) ∧ (l.length : Int) ≤ 20)
theorem teGood_tot (l : List S48) (hl : l.length ≤ 1048576) : Tot (fun k => spec_teGood.f k l) (fun b => (b = true) ↔ TeGood l) := by
  unfold spec_teGood.f
  refine trec (σ := Int) (fun i k => spec_teGood.l0 k l l (l.length : Int) i) (fun i => ((l.length : Int) - i).toNat) (fun i => 0 ≤ i ∧ i ≤ (l.length : Int))
    (fun i b => (b = true) ↔ ((∀ j : Int, i ≤ j → j < (l.length : Int) → TeC l j) ∧ (1 ≤ (l.length : Int) ∧ (l.length : Int) ≤ 20))) ?_ 0 ⟨Int.le_refl _, by omega⟩
  rintro i ⟨h0, h1⟩ ih
  simp only [spec_teGood.l0, teChange_eq, l1In_eq, Option.bind_some, decide_eq_true_eq]
  simp only [show wrap64 (i + 1) = i + 1 from wrap64_id (by omega) (by omega), show wrap64 (i - 1) = i - 1 from wrap64_id (by omega) (by omega)]
  repeat' (refine tite (fun _ => ?_) (fun _ => ?_))
  all_goals first
    | (exfalso; omega)
    | exact tsome (all_no (by omega) (by unfold TeC OkChange; omega))
    | exact tmono (ih (i + 1) ⟨by omega, by omega⟩ (by (try dsimp only); omega)) (fun b hb => all_go (by omega) (by unfold TeC OkChange; omega) hb)
    | exact tsome (all_end (by omega) (by simp only [decide_eq_true_eq]))
theorem areTempos_tot (l : List S48) (hl : l.length ≤ 1048576) : Tot (fun k => impl_AreTempos.f k l) (fun b => (b = true) ↔ TeGood l) := by
  have key : 1 ≤ (l.length : Int) → (l.length : Int) ≤ 20 → (rd_T48 l 0).f0 = 0 → Tot (fun k => impl_AreTempos.l0 k l l (l.length : Int) 0) (fun b => (b = true) ↔ TeGood l) := by
    intro g1 g2 g3
    refine tmono (trec (σ := Int) (fun i k => impl_AreTempos.l0 k l l (l.length : Int) i) (fun i => ((l.length : Int) - i).toNat) (fun i => 0 ≤ i ∧ i ≤ (l.length : Int))
      (fun i b => (b = true) ↔ ((∀ j : Int, i ≤ j → j < (l.length : Int) → TeC l j) ∧ True)) ?_ 0 ⟨Int.le_refl _, by omega⟩) (fun b hb => ?_)
    · rintro i ⟨h0, h1⟩ ih
      have g4 : i = 0 → (rd_T48 l i).f0 = 0 := by rintro rfl; exact g3
      simp only [impl_AreTempos.l0, isChange_eq, Option.bind_some, decide_eq_true_eq]
      simp only [show wrap64 (i + 1) = i + 1 from wrap64_id (by omega) (by omega), show wrap64 (i - 1) = i - 1 from wrap64_id (by omega) (by omega)]
      repeat' (refine tite (fun _ => ?_) (fun _ => ?_))
      all_goals first
        | (exfalso; omega)
        | exact tsome (all_no (by omega) (by unfold TeC OkChange; omega))
        | exact tmono (ih (i + 1) ⟨by omega, by omega⟩ (by (try dsimp only); omega)) (fun b hb => all_go (by omega) (by unfold TeC OkChange; omega) hb)
        | exact tsome (all_end (by omega) (by simp))
    · rw [hb]; unfold TeGood
      exact ⟨fun h => ⟨h.1, g1, g2⟩, fun h => ⟨h.1, trivial⟩⟩
  have no : ∀ g : Nat → Option Bool, (∀ k, g k = impl_AreTempos.j0 k l true) → ¬ TeGood l → Tot g (fun b => (b = true) ↔ TeGood l) := by
    intro g hg hn
    refine tstep (tconst (r := false) (fun k => ?_) ⟨fun h => by simp at h, fun h => absurd h hn⟩)
    rw [hg]; simp only [impl_AreTempos.j0, if_true]
  unfold impl_AreTempos.f
  refine tite (fun c => no _ (fun _ => rfl) (fun h => by have := h.2; omega)) (fun c1 => ?_)
  refine tite (fun c => no _ (fun _ => rfl) (fun h => by have := h.2; omega)) (fun c2 => ?_)
  refine tpos (by omega) ?_
  by_cases h : (rd_T48 l 0).f0 = 0
  · rw [show ((rd_T48 l 0).f0 != 0) = false by simp [h]]
    refine tstep ?_
    simp only [impl_AreTempos.j0]
    exact tneg (by simp) (key (by omega) (by omega) h)
  · rw [show ((rd_T48 l 0).f0 != 0) = true by simp [h]]
    exact no _ (fun _ => rfl) (fun g => h ((g.1 0 (by omega) (by omega)).2.1 rfl))

def mkChange (j : Int) (n : Nat) : List S48 := (List.range n).map fun i : Nat => (⟨j + 2 * (i : Int) + 0, j + 2 * (i : Int) + 1⟩ : S48)
theorem mkChange_at (j : Int) (n : Nat) (i : Int) (h0 : 0 ≤ i) (h : i < n) : rd_T48 (mkChange j n) i = ⟨j + 2 * i + 0, j + 2 * i + 1⟩ := by
  obtain ⟨m, rfl⟩ := Int.eq_ofNat_of_zero_le h0
  have hm : m < n := by omega
  unfold rd_T48 mkChange
  simp [List.getD, hm]
theorem markChangeS (l : List S48) (j : Int) (hl : l.length ≤ 1048576) (hj : 0 ≤ j) (hj2 : j ≤ 1125899906842624) : Tot (fun k => laws_markChangeS.f k l j) (fun r => r = (j + 2 * (l.length : Int), mkChange j l.length)) := by
  unfold laws_markChangeS.f
  have key := trec (σ := List S48 × Int) (fun s k => laws_markChangeS.l0 k s.1 (j + 2 * s.2) s.2) (fun s => ((l.length : Int) - s.2).toNat)
    (fun s => 0 ≤ s.2 ∧ s.2 ≤ (l.length : Int) ∧ s.1.length = l.length ∧ ∀ i : Int, 0 ≤ i → i < s.2 → rd_T48 s.1 i = rd_T48 (mkChange j l.length) i) (fun _ r => r = (j + 2 * (l.length : Int), mkChange j l.length)) ?_
  · have h := key (l, 0) ⟨Int.le_refl _, by dsimp only; omega, rfl, fun i h0 h1 => by dsimp only at h1; omega⟩
    simpa using h
  · rintro ⟨ys, i⟩ ⟨h0, h1, h2, h3⟩ ih
    dsimp only at h0 h1 h2 h3
    simp only [laws_markChangeS.l0, Option.bind_some]
    refine tite (fun c => ?_) (fun c => ?_)
    · refine tpos h0 ?_
      have hi : i.toNat < ys.length := by omega
      have e : ∀ x : S48, rd_T48 (ys.set i.toNat x) i = x := fun x => by
        unfold rd_T48; exact ld_set_self x i (by omega) h0
      simp only [e, List.set_set, wrap64_id (x := j + 2 * i + 1) (by omega) (by omega), wrap64_id (x := j + 2 * i + 1 + 1) (by omega) (by omega)]
      rw [show j + 2 * i + 1 + 1 = j + 2 * (i + 1) by omega, wrap64_id (x := i + 1) (by omega) (by omega)]
      refine ih (_, i + 1) ⟨by dsimp only; omega, by dsimp only; omega, by simp [h2], ?_⟩ (by dsimp only; omega)
      intro p p0 p1
      dsimp only at p1 ⊢
      by_cases ep : p = i
      · subst ep
        rw [e, mkChange_at j _ p p0 (by omega)]
        congr 1 <;> omega
      · unfold rd_T48
        rw [ld_set_ne _ _ _ h0 p0 (by omega)]
        exact h3 p p0 (by omega)
    · obtain rfl : i = (l.length : Int) := by omega
      refine tsome ?_
      congr 1
      refine ld_ext (z := z48) (by simp [mkChange, h2]) (fun p p0 p1 => ?_)
      exact h3 p p0 (by omega)

theorem heldChangeS (j : Int) (n : Nat) (hn : n ≤ 1048576) (hj : 0 ≤ j) (hj2 : j ≤ 1125899906842624) : Tot (fun k => laws_heldChangeS.f k (mkChange j n) j) (fun r => r = j + 2 * (n : Int)) := by
  unfold laws_heldChangeS.f
  have hlen : ((mkChange j n).length : Int) = n := by simp [mkChange]
  have key := trec (σ := Int) (fun i k => laws_heldChangeS.l0 k (mkChange j n) (j + 2 * i) i) (fun i => ((n : Int) - i).toNat) (fun i => 0 ≤ i ∧ i ≤ (n : Int)) (fun _ r => r = j + 2 * (n : Int)) ?_ 0 ⟨Int.le_refl _, by omega⟩
  · simpa using key
  · rintro i ⟨h0, h1⟩ ih
    simp only [laws_heldChangeS.l0, hlen]
    refine tite (fun c => ?_) (fun c => ?_)
    · refine tpos h0 ?_
      simp only [mkChange_at j n i h0 c]
      simp only [wrap64_id (x := j + 2 * i + 1) (by omega) (by omega), wrap64_id (x := j + 2 * i + 1 + 1) (by omega) (by omega)]
      refine tpos (by first | trivial | omega) ?_
      refine tpos (by first | trivial | omega) ?_
      rw [show j + 2 * i + 1 + 1 = j + 2 * (i + 1) by omega, wrap64_id (x := i + 1) (by omega) (by omega)]
      exact ih (i + 1) ⟨by omega, by omega⟩ (by (try dsimp only); omega)
    · exact tsome (by omega)

theorem rd_eq (xs : List Int) (i : Int) : rd xs i = xs.getD i.toNat 0 := rfl

theorem te_mono (l : List S48) (hg : TeGood l) (p q : Int) (p0 : 0 ≤ p) (h : p ≤ q) (hq : q < (l.length : Int)) : (rd_T48 l p).f0 ≤ (rd_T48 l q).f0 := by
  have key : ∀ (d : Nat) (j : Int), j = p + d → j < (l.length : Int) → (rd_T48 l p).f0 ≤ (rd_T48 l j).f0 := by
    intro d
    induction d with
    | zero => intro j e _; rw [show j = p by omega]; exact Int.le_refl _
    | succ d ih =>
      intro j e hj
      have h1 := ih (j - 1) (by omega) (by omega)
      have h2 := (hg.1 j (by omega) hj).2.2 (by omega)
      omega
  exact key (q - p).toNat q (by omega) hq
theorem te_lt (l : List S48) (hg : TeGood l) (p q : Int) (p0 : 0 ≤ p) (h : p < q) (hq : q < (l.length : Int)) : (rd_T48 l p).f0 < (rd_T48 l q).f0 := by
  have h1 := te_mono l hg p (q - 1) p0 (by omega) (by omega)
  have h2 := (hg.1 q (by omega) hq).2.2 (by omega)
  omega

def inpl {α : Type} (f : α → α) (l : List α) (i : Nat) : List α := (l.take i).map f ++ l.drop i
theorem inpl_len {α : Type} (f : α → α) (l : List α) (i : Nat) (h : i ≤ l.length) : (inpl f l i).length = l.length := by
  unfold inpl; simp; omega
theorem inpl_zero {α : Type} (f : α → α) (l : List α) : inpl f l 0 = l := by simp [inpl]
theorem inpl_end {α : Type} (f : α → α) (l : List α) : inpl f l l.length = l.map f := by simp [inpl]
theorem inpl_at {α : Type} (z : α) (f : α → α) (l : List α) (i : Nat) (h : i < l.length) : (inpl f l i).getD i z = l.getD i z := by
  unfold inpl
  have h1 : ((l.take i).map f).length = i := by simp; omega
  rw [List.getD, List.getElem?_append_right (by omega), h1, Nat.sub_self]
  simp [List.getD, h]
theorem inpl_set {α : Type} (z : α) (f : α → α) (l : List α) (i : Nat) (h : i < l.length) : (inpl f l i).set i (f (l.getD i z)) = inpl f l (i + 1) := by
  unfold inpl
  have h1 : ((l.take i).map f).length = i := by simp; omega
  rw [List.set_append_right _ _ (by omega), h1, Nat.sub_self, List.drop_eq_getElem_cons h, List.set_cons_zero, List.take_succ_eq_append_getElem h, List.map_append, List.append_assoc]
  simp [List.getD, h]
theorem take_up {α β : Type} (z : α) (f : α → β) (l : List α) (i : Nat) (h : i < l.length) : (l.take (i + 1)).map f = (l.take i).map f ++ [f (l.getD i z)] := by
  rw [List.take_succ_eq_append_getElem h, List.map_append]
  simp [List.getD, h]

theorem cloneChange (l : List S48) (hl : l.length ≤ 1048576) : clone_Change.f l = some l := by
  unfold clone_Change.f
  simp only [Option.bind_some]
  rw [if_pos (by simp; omega)]
  rfl

def scPost (l : List S48) (r : List S48 × Bool) : Prop := (TeGood l ∧ r = (l, true)) ∨ (¬ TeGood l ∧ r = ([], false))
theorem scPost.det {l : List S48} {r r' : List S48 × Bool} (h : scPost l r) (h' : scPost l r') : r = r' := by
  rcases h with ⟨x, e⟩ | ⟨x, e⟩ <;> rcases h' with ⟨x', e'⟩ | ⟨x', e'⟩
  · rw [e, e']
  · exact absurd x x'
  · exact absurd x' x
  · rw [e, e']
theorem teIf_tot (l : List S48) (hl : l.length ≤ 1048576) : Tot (fun k => spec_teIf.f k l) (fun r => scPost l r) := by
  unfold spec_teIf.f
  exact tbind (teGood_tot l hl) (fun b hb => tite (fun c => tsome (.inl ⟨hb.1 c, rfl⟩)) (fun c => tsome (.inr ⟨fun h => c (hb.2 h), rfl⟩)))

theorem tlet {α β : Type} {v : α} {g : Nat → α → Option β} {Q : β → Prop} (h : Tot (fun k => g k v) Q) : Tot (fun k => (some v).bind fun y => g k y) Q := h
theorem take_drop_erase {α : Type} (l : List α) (m : Nat) : l.take m ++ l.drop (m + 1) = l.eraseIdx m := (List.eraseIdx_eq_take_drop_succ l m).symm
theorem wrapN1 (m : Nat) (h : m ≤ 1048576) : wrap64 ((m : Int) + 1) = ((m + 1 : Nat) : Int) := by rw [wrap64_id (by omega) (by omega)]; rfl
theorem erase_len {α : Type} (l : List α) (m : Nat) (h : l.length ≤ 1048576) : (l.eraseIdx m).length ≤ 1048576 := Nat.le_trans (List.length_eraseIdx_le l m) h

theorem split_ex (l : List S48) (s : Int) : ∀ n : Nat, n ≤ l.length → ∃ a : Nat, a ≤ n ∧ (∀ j : Nat, j < a → (rd_T48 l j).f0 < s) ∧ (a < n → ¬ (rd_T48 l a).f0 < s)
  | 0, _ => ⟨0, Nat.le_refl _, fun j hj => by omega, fun h => by omega⟩
  | n + 1, h => by
    obtain ⟨a, h1, h2, h3⟩ := split_ex l s n (by omega)
    by_cases e : a = n ∧ (rd_T48 l n).f0 < s
    · obtain ⟨rfl, e⟩ := e
      refine ⟨a + 1, Nat.le_refl _, fun j hj => ?_, fun h => by omega⟩
      by_cases q : j = a
      · rw [q]; exact e
      · exact h2 j (by omega)
    · refine ⟨a, by omega, h2, fun hlt => ?_⟩
      by_cases q : a < n
      · exact h3 q
      · obtain rfl : a = n := by omega
        exact fun hh => e ⟨rfl, hh⟩
def AddAt (l : List S48) (s : Int) (a b : Nat) : Prop := a ≤ l.length ∧ a ≤ b ∧ b ≤ a + 1 ∧ b ≤ l.length ∧ (∀ j : Nat, j < a → (rd_T48 l j).f0 < s) ∧ (∀ j : Nat, a ≤ j → j < b → (rd_T48 l j).f0 = s) ∧ (∀ j : Nat, b ≤ j → j < l.length → s < (rd_T48 l j).f0)
theorem addAt_ex (l : List S48) (hg : TeGood l) (s : Int) : ∃ a b : Nat, AddAt l s a b := by
  obtain ⟨a, h1, h2, h3⟩ := split_ex l s l.length (Nat.le_refl _)
  by_cases e : a < l.length ∧ (rd_T48 l a).f0 = s
  · refine ⟨a, a + 1, h1, by omega, Nat.le_refl _, by omega, h2, fun j hj hj2 => by rw [show j = a by omega]; exact e.2, fun j hj hj2 => ?_⟩
    have m := te_mono l hg a ((j : Int) - 1) (by omega) (by omega) (by omega)
    have c := (hg.1 j (by omega) (by omega)).2.2 (by omega)
    omega
  · refine ⟨a, a, h1, Nat.le_refl _, by omega, h1, h2, fun j hj hj2 => by omega, fun j hj hj2 => ?_⟩
    have m := te_mono l hg a j (by omega) (by omega) (by omega)
    have c := h3 (by omega)
    have e2 : ¬ (rd_T48 l a).f0 = s := fun h => e ⟨by omega, h⟩
    omega
def addRes (l : List S48) (x : S48) (a b : Nat) : List S48 := l.take a ++ [x] ++ l.drop b
theorem addRes_len (l : List S48) (x : S48) (a b : Nat) (ha : a ≤ l.length) : (addRes l x a b).length = a + 1 + (l.length - b) := by
  unfold addRes
  simp only [List.length_append, List.length_take, List.length_drop, List.length_singleton]
  omega
theorem rd_lt (l : List S48) (x : S48) (a b : Nat) (ha : a ≤ l.length) (j : Nat) (h : j < a) : rd_T48 (addRes l x a b) j = rd_T48 l j := by
  unfold addRes rd_T48
  rw [List.append_assoc]
  have h1 : j < (l.take a).length := by rw [List.length_take]; omega
  simp [List.getD, List.getElem?_append_left h1, List.getElem?_take, h]
theorem rd_at (l : List S48) (x : S48) (a b : Nat) (ha : a ≤ l.length) : rd_T48 (addRes l x a b) a = x := by
  unfold addRes rd_T48
  rw [List.append_assoc]
  have h1 : (l.take a).length = a := by rw [List.length_take]; omega
  simp [List.getD, List.getElem?_append_right (show (l.take a).length ≤ a by omega), h1]
theorem rd_gt (l : List S48) (x : S48) (a b : Nat) (ha : a ≤ l.length) (j : Nat) : rd_T48 (addRes l x a b) ((a + 1 + j : Nat) : Int) = rd_T48 l ((b + j : Nat) : Int) := by
  unfold addRes rd_T48
  have h1 : (l.take a ++ [x]).length = a + 1 := by rw [List.length_append, List.length_take, List.length_singleton]; omega
  simp only [Int.toNat_natCast, List.getD]
  rw [List.getElem?_append_right (by omega), h1, List.getElem?_drop, show b + (a + 1 + j - (a + 1)) = b + j by omega]
theorem addRes_good (l : List S48) (hg : TeGood l) (x : S48) (hx : OkChange x) (a b : Nat) (h : AddAt l x.f0 a b) : TeGood (addRes l x a b) ↔ a + 1 + (l.length - b) ≤ 20 := by
  obtain ⟨h1, h2, h3, h4, h5, h6, h7⟩ := h
  have hlen := addRes_len l x a b h1
  constructor
  · intro hh
    have := hh.2.2
    omega
  · intro hle
    refine ⟨fun j j0 j1 => ?_, by omega, by omega⟩
    obtain ⟨m, rfl⟩ := Int.eq_ofNat_of_zero_le j0
    unfold TeC
    by_cases c1 : m < a
    · have ho := hg.1 m (by omega) (by omega)
      rw [rd_lt l x a b h1 m c1]
      refine ⟨ho.1, ho.2.1, fun hp => ?_⟩
      rw [show (m : Int) - 1 = ((m - 1 : Nat) : Int) by omega, rd_lt l x a b h1 (m - 1) (by omega), show ((m - 1 : Nat) : Int) = (m : Int) - 1 by omega]
      exact ho.2.2 hp
    · by_cases c2 : m = a
      · subst c2
        rw [rd_at l x m b h1]
        refine ⟨hx, fun e => ?_, fun hp => ?_⟩
        · have em : m = 0 := by omega
          subst em
          have z := (hg.1 0 (by omega) (by have := hg.2; omega)).2.1 rfl
          have hx0 := hx.1
          by_cases eb : b = 0
          · have := h7 0 (by omega) (by have := hg.2; omega)
            have e0 : ((0 : Nat) : Int) = 0 := rfl
            rw [e0] at this
            omega
          · have := h6 0 (by omega) (by omega)
            have e0 : ((0 : Nat) : Int) = 0 := rfl
            rw [e0] at this
            omega
        · rw [show (m : Int) - 1 = ((m - 1 : Nat) : Int) by omega, rd_lt l x m b h1 (m - 1) (by omega)]
          exact h5 (m - 1) (by omega)
      · obtain ⟨q, rfl⟩ : ∃ q, m = a + 1 + q := ⟨m - a - 1, by omega⟩
        have ho := hg.1 ((b + q : Nat) : Int) (by omega) (by omega)
        rw [rd_gt l x a b h1 q]
        refine ⟨ho.1, fun e => by omega, fun _ => ?_⟩
        by_cases c3 : q = 0
        · subst c3
          rw [show ((a + 1 + 0 : Nat) : Int) - 1 = (a : Int) by omega, rd_at l x a b h1]
          exact h7 (b + 0) (by omega) (by omega)
        · rw [show ((a + 1 + q : Nat) : Int) - 1 = ((a + 1 + (q - 1) : Nat) : Int) by omega, rd_gt l x a b h1 (q - 1), show ((b + (q - 1) : Nat) : Int) = ((b + q : Nat) : Int) - 1 by omega]
          exact ho.2.2 (by omega)
theorem take_snoc {α : Type} (z : α) (l : List α) (i : Nat) (h : i < l.length) : l.take (i + 1) = l.take i ++ [l.getD i z] := by
  rw [List.take_succ_eq_append_getElem h]
  simp [List.getD, h]
theorem specAdd1_tot (l : List S48) (hg : TeGood l) (s t : Int) (a b : Nat) (h : AddAt l s a b) : Tot (fun k => spec_AddTempo.l1 k (l.take a ++ [(⟨s, t⟩ : S48)]) l (l.length : Int) 0 s t) (fun r => scPost (addRes l ⟨s, t⟩ a b) r) := by
  obtain ⟨h1, h2, h3, h4, h5, h6, h7⟩ := h
  have hn := hg.2
  have key := trec (σ := Nat) (fun i k => spec_AddTempo.l1 k (l.take a ++ [(⟨s, t⟩ : S48)] ++ (l.take i).drop b) l (l.length : Int) (i : Int) s t) (fun i => l.length - i) (fun i => i ≤ l.length) (fun _ r => scPost (addRes l ⟨s, t⟩ a b) r) ?_ 0 (Nat.zero_le _)
  · simpa using key
  · intro i hi ih
    simp only [spec_AddTempo.l1, wrap64_id (x := (i : Int) + 1) (by omega) (by omega)]
    refine tite (fun c => ?_) (fun c => ?_)
    · refine tpos (by omega) (tpos c ?_)
      have hr := ih (i + 1) (by omega) (by omega)
      refine tite (fun c2 => ?_) (fun c2 => ?_)
      · have hb : b ≤ i := by
          refine Nat.le_of_not_lt fun hlt => ?_
          by_cases q : i < a
          · have := h5 i q; omega
          · have := h6 i (by omega) hlt; omega
        refine tpos (by simp; omega) ?_
        have e : (l.take (i + 1)).drop b = (l.take i).drop b ++ [rd_T48 l i] := by
          rw [take_snoc z48 l i (by omega), List.drop_append_of_le_length (by rw [List.length_take]; omega)]
          rfl
        rw [e] at hr
        simpa [List.append_assoc] using hr
      · have hb : i < b := by
          refine Nat.lt_of_not_le fun hle => ?_
          have := h7 i hle (by omega)
          omega
        have e1 : (l.take (i + 1)).drop b = [] := List.drop_eq_nil_of_le (by rw [List.length_take]; omega)
        have e2 : (l.take i).drop b = [] := List.drop_eq_nil_of_le (by rw [List.length_take]; omega)
        rw [e1] at hr
        rw [e2]
        simpa using hr
    · obtain rfl : i = l.length := by omega
      rw [List.take_length]
      have hl := addRes_len l ⟨s, t⟩ a b h1
      exact tbind (teIf_tot (addRes l ⟨s, t⟩ a b) (by omega)) (fun r hr => tsome hr)
theorem specAdd_tot (l : List S48) (hg : TeGood l) (s t : Int) (a b : Nat) (h : AddAt l s a b) : Tot (fun k => spec_AddTempo.l0 k l [] l (l.length : Int) 0 s t) (fun r => scPost (addRes l ⟨s, t⟩ a b) r) := by
  have hh := h
  obtain ⟨h1, h2, h3, h4, h5, h6, h7⟩ := h
  have hn := hg.2
  have key := trec (σ := Nat) (fun i k => spec_AddTempo.l0 k l (l.take (min i a)) l (l.length : Int) (i : Int) s t) (fun i => l.length - i) (fun i => i ≤ l.length) (fun _ r => scPost (addRes l ⟨s, t⟩ a b) r) ?_ 0 (Nat.zero_le _)
  · simpa using key
  · intro i hi ih
    simp only [spec_AddTempo.l0, wrap64_id (x := (i : Int) + 1) (by omega) (by omega)]
    refine tite (fun c => ?_) (fun c => ?_)
    · refine tpos (by omega) (tpos c ?_)
      have hr := ih (i + 1) (by omega) (by omega)
      refine tite (fun c2 => ?_) (fun c2 => ?_)
      · have hb : i < a := by
          refine Nat.lt_of_not_le fun hle => ?_
          by_cases q : i < b
          · have := h6 i hle q; omega
          · have := h7 i (by omega) (by omega); omega
        refine tpos (by rw [List.length_take]; omega) ?_
        have e : l.take (min (i + 1) a) = l.take (min i a) ++ [rd_T48 l i] := by
          rw [Nat.min_eq_left (by omega), Nat.min_eq_left (by omega), take_snoc z48 l i (by omega)]
          rfl
        rw [e] at hr
        simpa using hr
      · have hb : a ≤ i := by
          refine Nat.le_of_not_lt fun hlt => ?_
          have := h5 i hlt
          omega
        rw [Nat.min_eq_right (by omega)] at hr ⊢
        simpa using hr
    · rw [Nat.min_eq_right (by omega)]
      refine tpos (by rw [List.length_take]; omega) ?_
      exact specAdd1_tot l hg s t a b hh
theorem implAdd_tot (l : List S48) (hg : TeGood l) (s t : Int) (hx : OkChange ⟨s, t⟩) (a b : Nat) (h : AddAt l s a b) : Tot (fun k => impl_AddTempo.l0 k l 0 s t) (fun r => scPost (addRes l ⟨s, t⟩ a b) r) := by
  have hgood := addRes_good l hg ⟨s, t⟩ hx a b h
  obtain ⟨h1, h2, h3, h4, h5, h6, h7⟩ := h
  have hn := hg.2
  have j3T : a < l.length → (rd_T48 l a).f0 = s → Tot (fun k => impl_AddTempo.j3 k l (a : Int) true s t) (fun r => scPost (addRes l ⟨s, t⟩ a b) r) := by
    intro c e
    have hb : b = a + 1 := by
      refine Classical.byContradiction fun hne => ?_
      have := h7 a (by omega) c
      omega
    subst hb
    refine tstep ?_
    simp only [impl_AddTempo.j3, if_true]
    refine tpos (by omega) (tpos (by omega) (tsome (.inl ⟨hgood.2 (by omega), ?_⟩)))
    rw [Int.toNat_natCast, List.set_eq_take_append_cons_drop, if_pos c]
    simp [addRes]
  have j3F : ¬ (a < l.length ∧ (rd_T48 l a).f0 = s) → Tot (fun k => impl_AddTempo.j3 k l (a : Int) false s t) (fun r => scPost (addRes l ⟨s, t⟩ a b) r) := by
    intro c
    have hb : b = a := by
      refine Classical.byContradiction fun hne => c ⟨by omega, h6 a (Nat.le_refl _) (by omega)⟩
    subst hb
    refine tstep ?_
    simp only [impl_AddTempo.j3]
    refine tneg (by simp) (tite (fun c2 => tsome (.inr ⟨fun hh => by have := hgood.1 hh; omega, rfl⟩)) (fun c2 => ?_))
    have e : insert_Change.f l (b : Int) [(⟨s, t⟩ : S48)] = some (addRes l ⟨s, t⟩ b b) := by
      unfold insert_Change.f
      rw [if_pos (by omega), if_pos (by omega), if_pos (by simp), if_pos (by simp; omega), Int.toNat_natCast]
      rfl
    rw [e]
    simp only [Option.bind_some]
    exact tsome (.inl ⟨hgood.2 (by omega), rfl⟩)
  have j2 : Tot (fun k => impl_AddTempo.j2 k l (a : Int) s t) (fun r => scPost (addRes l ⟨s, t⟩ a b) r) := by
    refine tstep ?_
    simp only [impl_AddTempo.j2]
    refine tite (fun c => tpos (by omega) ?_) (fun c => j3F (fun h => c (by omega)))
    by_cases e : (rd_T48 l a).f0 = s
    · rw [show ((rd_T48 l a).f0 == s) = true from beq_iff_eq.2 e]
      exact j3T (by omega) e
    · rw [show ((rd_T48 l a).f0 == s) = false from beq_eq_false_iff_ne.2 e]
      exact j3F (fun h => e h.2)
  refine trec (σ := Nat) (fun i k => impl_AddTempo.l0 k l (i : Int) s t) (fun i => l.length - i) (fun i => i ≤ a) (fun _ r => scPost (addRes l ⟨s, t⟩ a b) r) ?_ 0 (Nat.zero_le _)
  intro i hi ih
  simp only [impl_AddTempo.l0, wrap64_id (x := (i : Int) + 1) (by omega) (by omega)]
  refine tite (fun c => ?_) (fun c => ?_)
  · refine tpos (by omega) (tite (fun c2 => ?_) (fun c2 => ?_))
    · have hb : i < a := by
        refine Nat.lt_of_not_le fun hle => ?_
        by_cases q : i < b
        · have := h6 i hle q; omega
        · have := h7 i (by omega) (by omega); omega
      have := ih (i + 1) (by omega) (by omega)
      simpa using this
    · have hb : i = a := by
        refine Classical.byContradiction fun hne => c2 (h5 i (by omega))
      subst hb
      exact j2
  · obtain rfl : i = a := by omega
    exact j2
theorem addTempo_agree (l : List S48) (s t : Int) (hl : l.length ≤ 1048576) : ∃ r, Tot (fun k => spec_AddTempo.f k l s t) (fun y => y = r) ∧ Tot (fun k => impl_AddTempo.f k l s t) (fun y => y = r) ∧ r.1.length ≤ 1048576 := by
  have sF : Tot (fun k => spec_AddTempo.j0 k l true s t) (fun y => y = ([], false)) := by
    refine tstep ?_
    simp only [spec_AddTempo.j0, if_true]
    exact tsome rfl
  have iF : Tot (fun k => impl_AddTempo.j0 k l true s t) (fun y => y = ([], false)) := by
    refine tstep ?_
    simp only [impl_AddTempo.j0, if_true]
    exact tsome rfl
  by_cases hg : TeGood l ∧ 0 ≤ s ∧ s ≤ 2000 ∧ 1000 ≤ t ∧ t ≤ 1000000
  · obtain ⟨hg, hx⟩ := hg
    obtain ⟨a, b, hab⟩ := addAt_ex l hg s
    obtain ⟨r, hr, hR⟩ := specAdd_tot l hg s t a b hab
    have hlen := addRes_len l ⟨s, t⟩ a b hab.1
    refine ⟨r, ?_, ?_, ?_⟩
    · unfold spec_AddTempo.f
      refine tbind (teGood_tot l hl) (fun bb h => tpos (h.2 hg) ?_)
      simp only [teChange_eq, Option.bind_some]
      rw [decide_eq_true hx, Bool.not_true]
      refine tstep ?_
      simp only [spec_AddTempo.j0]
      exact tneg (by simp) ⟨r, hr, rfl⟩
    · unfold impl_AddTempo.f
      refine tbind (areTempos_tot l hl) (fun bb h => tpos (h.2 hg) ?_)
      simp only [isChange_eq, Option.bind_some]
      rw [decide_eq_true hx, Bool.not_true]
      refine tstep ?_
      simp only [impl_AddTempo.j0, cloneChange l hl, Option.bind_some]
      exact tneg (by simp) (tmono (implAdd_tot l hg s t hx a b hab) (fun y hy => hy.det hR))
    · have hn := hg.2
      rcases hR with ⟨_, rfl⟩ | ⟨_, rfl⟩
      · have := hab.1; dsimp only; omega
      · simp
  · refine ⟨([], false), ?_, ?_, by simp⟩
    · unfold spec_AddTempo.f
      refine tbind (teGood_tot l hl) (fun b h => tite (fun c => ?_) (fun c => sF))
      simp only [teChange_eq, Option.bind_some]
      rw [decide_eq_false (fun hh => hg ⟨h.1 c, hh⟩), Bool.not_false]
      exact sF
    · unfold impl_AddTempo.f
      refine tbind (areTempos_tot l hl) (fun b h => tite (fun c => ?_) (fun c => iF))
      simp only [isChange_eq, Option.bind_some]
      rw [decide_eq_false (fun hh => hg ⟨h.1 c, hh⟩), Bool.not_false]
      exact iF


theorem FnExactAddTempo (l0 : List (S42)) (a1_0 : Int) (a1_1 : Int) (hm0 : l0.length ≤ 9223372036854775807) (hw0 : ∀ y ∈ l0, Glue.wf64 y.f0 ∧ Glue.wf64 y.f1) (w1_0 : Glue.wf64 a1_0) (w1_1 : Glue.wf64 a1_1) : ∃ k, laws_FnExactAddTempo.f k l0 a1_0 a1_1 = some true := by
  refine rounds ?_
  unfold laws_FnExactAddTempo.f
  rw [szChangeS l0 (1048576 : Int) (by omega) (by omega) hm0]
  simp only [Option.bind_some]
  by_cases hl0 : (1048576 : Int) < (l0.length : Int)
  · simp only [if_pos hl0]; exact tpos (by omega) (tsome rfl)
  simp only [if_neg hl0]
  refine tneg (by omega) ?_
  obtain ⟨r, hS, hI, hR⟩ := addTempo_agree (l0.map cvChange) a1_0 a1_1 (by simp; omega)
  repeat first
    | exact tsome rfl
    | (refine tbind hS (fun _ e => ?_); subst e)
    | (refine tbind hI (fun _ e => ?_); subst e)
    | (refine tbind (toChangeS l0 (by omega)) (fun _ e => ?_); subst e)
    | (refine tbind (eqChangeS _ (by first | omega | (dsimp only; omega) | (simp; omega) | assumption)) (fun _ e => ?_); subst e)
    | (refine tbind (eqChangeS _ (by first | assumption | omega | (dsimp only; omega) | (simp; omega))) (fun _ e => ?_); subst e)
    | (refine tbind (markChangeS _ 1 (by first | assumption | omega | (dsimp only; omega) | (simp; omega)) (by omega) (by omega)) (fun _ e => ?_); subst e)
    | (refine tbind (heldChangeS 1 _ (by first | omega | (simp; omega)) (by omega) (by omega)) (fun _ e => ?_); subst e)
    | (refine tbind (markChangeS _ _ (by first | omega | (simp; omega)) (by omega) (by omega)) (fun _ e => ?_); subst e)
    | (refine tbind ((tsome rfl : Tot (fun _ => laws_toChange.f a1_0 a1_1) (fun y => y = (a1_0, a1_1)))) (fun _ e => ?_); subst e)
    | refine tpos rfl ?_
    | refine tneg (by dsimp only; omega) ?_
    | refine tneg (by omega) ?_
    | refine tneg (by simp; done) ?_
    | refine tpos (by dsimp only) ?_
    | (refine tstep ?_; simp only [laws_FnExactAddTempo.j0])
    | (refine tstep ?_; simp only [laws_FnExactAddTempo.j1])
    | (refine tstep ?_; simp only [laws_FnExactAddTempo.j2])
end Go.Proofs.Ytjgpngeifgcidaa.Pure
