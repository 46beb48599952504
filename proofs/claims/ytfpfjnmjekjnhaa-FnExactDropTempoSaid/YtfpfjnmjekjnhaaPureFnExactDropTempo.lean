/- The plain side of the law FnExactDropTempo: lists and numbers alone. -/
import Derived.Test.YtfpfjnmjekjnhaaPFnExactDropTempox6
import Derived.Test.YtfpfjnmjekjnhaaGlue
import Derived.Test.YtfpfjnmjekjnhaaTot
set_option linter.unusedVariables false
set_option linter.unusedSimpArgs false
namespace Go.Proofs.Ytfpfjnmjekjnhaa.Pure
open Go.RowKit Go.Proofs.Ytfpfjnmjekjnhaa.PFnExactDropTempo Go.Proofs.YtfpfjnmjekjnhaaW.PrintWords Go.Proofs.YtfpfjnmjekjnhaaW.PrintMore Go.Proofs.Ytfpfjnmjekjnhaa.Tot

theorem l1In_eq (a b c : Int) : spec_l1In.f a b c = some (decide (b ≤ a ∧ a ≤ c)) := by
  unfold spec_l1In.f
  by_cases h : b ≤ a <;> simp [h]

def cvChange (x : S57) : S55 := ⟨x.f0, x.f1⟩
theorem toChangeS (l : List S57) (hl : l.length ≤ 1048576) : Tot (fun k => laws_toChangeS.f k l) (fun r => r = l.map cvChange) := by
  unfold laws_toChangeS.f
  refine tpos (by omega) (tpos (by omega) ?_)
  have key := trec (σ := List S55 × Int) (fun s k => laws_toChangeS.l0 k l s.1 s.2) (fun s => ((l.length : Int) - s.2).toNat)
    (fun s => 0 ≤ s.2 ∧ s.2 ≤ (l.length : Int) ∧ s.1.length = l.length ∧ ∀ j : Int, 0 ≤ j → j < s.2 → s.1.getD j.toNat z55 = cvChange (l.getD j.toNat z57)) (fun _ r => r = l.map cvChange) ?_
  · exact key (List.replicate (l.length : Int).toNat z55, 0) ⟨Int.le_refl _, by dsimp only; omega, by simp, fun j h0 h1 => by dsimp only at h1; omega⟩
  · rintro ⟨ys, i⟩ ⟨h0, h1, h2, h3⟩ ih
    dsimp only at h0 h1 h2 h3
    simp only [laws_toChangeS.l0, laws_toChange.f, Option.bind_some]
    refine tite (fun c => ?_) (fun c => ?_)
    · refine tpos h0 (tpos (by omega) ?_)
      rw [wrap64_id (by omega) (by omega)]
      refine ih (_, i + 1) ⟨by dsimp only; omega, by dsimp only; omega, by simp [h2], ?_⟩ (by dsimp only; omega)
      intro j hj0 hj1
      dsimp only at hj1 ⊢
      by_cases e : j = i
      · subst e; rw [ld_set_self _ _ (by omega) hj0]; rfl
      · rw [ld_set_ne _ _ _ h0 hj0 (by omega)]; exact h3 j hj0 (by omega)
    · exact tsome (write_end h2 (fun j a b => h3 j a (by omega)))

theorem eqChangeS (l : List S55) (hl : l.length ≤ 1048576) : Tot (fun k => laws_eqChangeS.f k l l) (fun r => r = true) := by
  unfold laws_eqChangeS.f
  refine tpos rfl ?_
  refine trec (σ := Int) (fun i k => laws_eqChangeS.l0 k l l i) (fun i => ((l.length : Int) - i).toNat) (fun i => 0 ≤ i ∧ i ≤ (l.length : Int)) (fun _ r => r = true) ?_ 0 ⟨Int.le_refl _, by omega⟩
  rintro i ⟨h0, h1⟩ ih
  simp only [laws_eqChangeS.l0, laws_eqChange.f, if_true, Option.bind_some]
  refine tite (fun c => ?_) (fun c => tsome rfl)
  refine tpos h0 (tpos (by omega) ?_)
  rw [wrap64_id (by omega) (by omega)]
  exact ih (i + 1) ⟨by omega, by omega⟩ (by (try dsimp only); omega)

theorem szChangeS (l : List S57) (n : Int) (hn : 0 ≤ n) (hn2 : n ≤ 1048576) (hl : l.length ≤ 9223372036854775807) : laws_szChangeS.f l n = some (if n < l.length then -1 else n - l.length) := by
  unfold laws_szChangeS.f
  simp (disch := omega) only [wrap64_id]
  by_cases h : n < l.length
  · rw [if_pos (by omega), if_pos h]
  · rw [if_neg (by omega), if_neg h]

def OkChange (x : S55) : Prop := 0 ≤ x.f0 ∧ x.f0 ≤ 2000 ∧ 1000 ≤ x.f1 ∧ x.f1 ≤ 1000000
theorem teChange_eq (a b : Int) : spec_teChange.f a b = some (decide (0 ≤ a ∧ a ≤ 2000 ∧ 1000 ≤ b ∧ b ≤ 1000000)) := by
  unfold spec_teChange.f
  simp only [l1In_eq, Option.bind_some, decide_eq_true_eq]
  split
  · congr 1; rw [Bool.eq_iff_iff]; simp only [decide_eq_true_eq]; omega
  · congr 1; rw [Bool.eq_iff_iff]; simp only [decide_eq_true_eq]; simp; omega
theorem isChange_eq (a b : Int) : impl_isChange.f a b = some (decide (0 ≤ a ∧ a ≤ 2000 ∧ 1000 ≤ b ∧ b ≤ 1000000)) := by
  unfold impl_isChange.f
  by_cases h1 : 0 ≤ a <;> by_cases h2 : a ≤ 2000 <;> by_cases h3 : 1000 ≤ b <;> simp [h1, h2, h3] <;> omega
def TeC (l : List S55) (j : Int) : Prop := OkChange (rd_T55 l j) ∧ (j = 0 → (rd_T55 l j).f0 = 0) ∧ (0 < j → (rd_T55 l (j - 1)).f0 < (rd_T55 l j).f0)
def TeGood (l : List S55) : Prop := (∀ j : Int, 0 ≤ j → j < (l.length : Int) → TeC l j) ∧ (1 ≤ (l.length : Int) ∧ (l.length : Int) ≤ 20)
theorem teGood_tot (l : List S55) (hl : l.length ≤ 1048576) : Tot (fun k => spec_teGood.f k l) (fun b => (b = true) ↔ TeGood l) := by
  unfold spec_teGood.f
  refine trec (σ := Int) (fun i k => spec_teGood.l0 k l l (l.length : Int) i) (fun i => ((l.length : Int) - i).toNat) (fun i => 0 ≤ i ∧ i ≤ (l.length : Int))
    (fun i b => (b = true) ↔ ((∀ j : Int, i ≤ j → j < (l.length : Int) → TeC l j) ∧ (1 ≤ (l.length : Int) ∧ (l.length : Int) ≤ 20))) ?_ 0 ⟨Int.le_refl _, by omega⟩
  rintro i ⟨h0, h1⟩ ih
  simp only [spec_teGood.l0, teChange_eq, l1In_eq, Option.bind_some, decide_eq_true_eq]
  simp only [show wrap64 (i + 1) = i + 1 from wrap64_id (by omega) (by omega), show wrap64 (i - 1) = i - 1 from wrap64_id (by omega) (by omega)]
  repeat' (refine tite (fun _ => ?_) (fun _ => ?_))
  all_goals first
    | (exfalso; omega)
    | exact tsome (all_no (by omega) (by unfold TeC OkChange; omega))
    | exact tmono (ih (i + 1) ⟨by omega, by omega⟩ (by (try dsimp only); omega)) (fun b hb => all_go (by omega) (by unfold TeC OkChange; omega) hb)
    | exact tsome (all_end (by omega) (by simp only [decide_eq_true_eq]))
theorem areTempos_tot (l : List S55) (hl : l.length ≤ 1048576) : Tot (fun k => impl_AreTempos.f k l) (fun b => (b = true) ↔ TeGood l) := by
  have key : 1 ≤ (l.length : Int) → (l.length : Int) ≤ 20 → (rd_T55 l 0).f0 = 0 → Tot (fun k => impl_AreTempos.l0 k l l (l.length : Int) 0) (fun b => (b = true) ↔ TeGood l) := by
    intro g1 g2 g3
    refine tmono (trec (σ := Int) (fun i k => impl_AreTempos.l0 k l l (l.length : Int) i) (fun i => ((l.length : Int) - i).toNat) (fun i => 0 ≤ i ∧ i ≤ (l.length : Int))
      (fun i b => (b = true) ↔ ((∀ j : Int, i ≤ j → j < (l.length : Int) → TeC l j) ∧ True)) ?_ 0 ⟨Int.le_refl _, by omega⟩) (fun b hb => ?_)
    · rintro i ⟨h0, h1⟩ ih
      have g4 : i = 0 → (rd_T55 l i).f0 = 0 := by rintro rfl; exact g3
      simp only [impl_AreTempos.l0, isChange_eq, Option.bind_some, decide_eq_true_eq]
      simp only [show wrap64 (i + 1) = i + 1 from wrap64_id (by omega) (by omega), show wrap64 (i - 1) = i - 1 from wrap64_id (by omega) (by omega)]
      repeat' (refine tite (fun _ => ?_) (fun _ => ?_))
      all_goals first
        | (exfalso; omega)
        | exact tsome (all_no (by omega) (by unfold TeC OkChange; omega))
        | exact tmono (ih (i + 1) ⟨by omega, by omega⟩ (by (try dsimp only); omega)) (fun b hb => all_go (by omega) (by unfold TeC OkChange; omega) hb)
        | exact tsome (all_end (by omega) (by simp))
    · rw [hb]; unfold TeGood
      exact ⟨fun h => ⟨h.1, g1, g2⟩, fun h => ⟨h.1, trivial⟩⟩
  have no : ∀ g : Nat → Option Bool, (∀ k, g k = impl_AreTempos.j0 k l true) → ¬ TeGood l → Tot g (fun b => (b = true) ↔ TeGood l) := by
    intro g hg hn
    refine tstep (tconst (r := false) (fun k => ?_) ⟨fun h => by simp at h, fun h => absurd h hn⟩)
    rw [hg]; simp only [impl_AreTempos.j0, if_true]
  unfold impl_AreTempos.f
  refine tite (fun c => no _ (fun _ => rfl) (fun h => by have := h.2; omega)) (fun c1 => ?_)
  refine tite (fun c => no _ (fun _ => rfl) (fun h => by have := h.2; omega)) (fun c2 => ?_)
  refine tpos (by omega) ?_
  by_cases h : (rd_T55 l 0).f0 = 0
  · rw [show ((rd_T55 l 0).f0 != 0) = false by simp [h]]
    refine tstep ?_
    simp only [impl_AreTempos.j0]
    exact tneg (by simp) (key (by omega) (by omega) h)
  · rw [show ((rd_T55 l 0).f0 != 0) = true by simp [h]]
    exact no _ (fun _ => rfl) (fun g => h ((g.1 0 (by omega) (by omega)).2.1 rfl))

def mkChange (j : Int) (n : Nat) : List S55 := (List.range n).map fun i : Nat => (⟨j + 2 * (i : Int) + 0, j + 2 * (i : Int) + 1⟩ : S55)
theorem mkChange_at (j : Int) (n : Nat) (i : Int) (h0 : 0 ≤ i) (h : i < n) : rd_T55 (mkChange j n) i = ⟨j + 2 * i + 0, j + 2 * i + 1⟩ := by
  obtain ⟨m, rfl⟩ := Int.eq_ofNat_of_zero_le h0
  have hm : m < n := by omega
  unfold rd_T55 mkChange
  simp [List.getD, hm]
theorem markChangeS (l : List S55) (j : Int) (hl : l.length ≤ 1048576) (hj : 0 ≤ j) (hj2 : j ≤ 1125899906842624) : Tot (fun k => laws_markChangeS.f k l j) (fun r => r = (j + 2 * (l.length : Int), mkChange j l.length)) := by
  unfold laws_markChangeS.f
  have key := trec (σ := List S55 × Int) (fun s k => laws_markChangeS.l0 k s.1 (j + 2 * s.2) s.2) (fun s => ((l.length : Int) - s.2).toNat)
    (fun s => 0 ≤ s.2 ∧ s.2 ≤ (l.length : Int) ∧ s.1.length = l.length ∧ ∀ i : Int, 0 ≤ i → i < s.2 → rd_T55 s.1 i = rd_T55 (mkChange j l.length) i) (fun _ r => r = (j + 2 * (l.length : Int), mkChange j l.length)) ?_
  · have h := key (l, 0) ⟨Int.le_refl _, by dsimp only; omega, rfl, fun i h0 h1 => by dsimp only at h1; omega⟩
    simpa using h
  · rintro ⟨ys, i⟩ ⟨h0, h1, h2, h3⟩ ih
    dsimp only at h0 h1 h2 h3
    simp only [laws_markChangeS.l0, Option.bind_some]
    refine tite (fun c => ?_) (fun c => ?_)
    · refine tpos h0 ?_
      have hi : i.toNat < ys.length := by omega
      have e : ∀ x : S55, rd_T55 (ys.set i.toNat x) i = x := fun x => by
        unfold rd_T55; exact ld_set_self x i (by omega) h0
      simp only [e, List.set_set, wrap64_id (x := j + 2 * i + 1) (by omega) (by omega), wrap64_id (x := j + 2 * i + 1 + 1) (by omega) (by omega)]
      rw [show j + 2 * i + 1 + 1 = j + 2 * (i + 1) by omega, wrap64_id (x := i + 1) (by omega) (by omega)]
      refine ih (_, i + 1) ⟨by dsimp only; omega, by dsimp only; omega, by simp [h2], ?_⟩ (by dsimp only; omega)
      intro p p0 p1
      dsimp only at p1 ⊢
      by_cases ep : p = i
      · subst ep
        rw [e, mkChange_at j _ p p0 (by omega)]
        congr 1 <;> omega
      · unfold rd_T55
        rw [ld_set_ne _ _ _ h0 p0 (by omega)]
        exact h3 p p0 (by omega)
    · obtain rfl : i = (l.length : Int) := by omega
      refine tsome ?_
      congr 1
      refine ld_ext (z := z55) (by simp [mkChange, h2]) (fun p p0 p1 => ?_)
      exact h3 p p0 (by omega)

theorem heldChangeS (j : Int) (n : Nat) (hn : n ≤ 1048576) (hj : 0 ≤ j) (hj2 : j ≤ 1125899906842624) : Tot (fun k => laws_heldChangeS.f k (mkChange j n) j) (fun r => r = j + 2 * (n : Int)) := by
  unfold laws_heldChangeS.f
  have hlen : ((mkChange j n).length : Int) = n := by simp [mkChange]
  have key := trec (σ := Int) (fun i k => laws_heldChangeS.l0 k (mkChange j n) (j + 2 * i) i) (fun i => ((n : Int) - i).toNat) (fun i => 0 ≤ i ∧ i ≤ (n : Int)) (fun _ r => r = j + 2 * (n : Int)) ?_ 0 ⟨Int.le_refl _, by omega⟩
  · simpa using key
  · rintro i ⟨h0, h1⟩ ih
    simp only [laws_heldChangeS.l0, hlen]
    refine tite (fun c => ?_) (fun c => ?_)
    · refine tpos h0 ?_
      simp only [mkChange_at j n i h0 c]
      simp only [wrap64_id (x := j + 2 * i + 1) (by omega) (by omega), wrap64_id (x := j + 2 * i + 1 + 1) (by omega) (by omega)]
      refine tpos (by first | trivial | omega) ?_
      refine tpos (by first | trivial | omega) ?_
      rw [show j + 2 * i + 1 + 1 = j + 2 * (i + 1) by omega, wrap64_id (x := i + 1) (by omega) (by omega)]
      exact ih (i + 1) ⟨by omega, by omega⟩ (by (try dsimp only); omega)
    · exact tsome (by omega)

theorem te_mono (l : List S55) (hg : TeGood l) (p q : Int) (p0 : 0 ≤ p) (h : p ≤ q) (hq : q < (l.length : Int)) : (rd_T55 l p).f0 ≤ (rd_T55 l q).f0 := by
  have key : ∀ (d : Nat) (j : Int), j = p + d → j < (l.length : Int) → (rd_T55 l p).f0 ≤ (rd_T55 l j).f0 := by
    intro d
    induction d with
    | zero => intro j e _; rw [show j = p by omega]; exact Int.le_refl _
    | succ d ih =>
      intro j e hj
      have h1 := ih (j - 1) (by omega) (by omega)
      have h2 := (hg.1 j (by omega) hj).2.2 (by omega)
      omega
  exact key (q - p).toNat q (by omega) hq
theorem te_lt (l : List S55) (hg : TeGood l) (p q : Int) (p0 : 0 ≤ p) (h : p < q) (hq : q < (l.length : Int)) : (rd_T55 l p).f0 < (rd_T55 l q).f0 := by
  have h1 := te_mono l hg p (q - 1) p0 (by omega) (by omega)
  have h2 := (hg.1 q (by omega) hq).2.2 (by omega)
  omega

def inpl {α : Type} (f : α → α) (l : List α) (i : Nat) : List α := (l.take i).map f ++ l.drop i
theorem inpl_len {α : Type} (f : α → α) (l : List α) (i : Nat) (h : i ≤ l.length) : (inpl f l i).length = l.length := by
  unfold inpl; simp; omega
theorem inpl_zero {α : Type} (f : α → α) (l : List α) : inpl f l 0 = l := by simp [inpl]
theorem inpl_end {α : Type} (f : α → α) (l : List α) : inpl f l l.length = l.map f := by simp [inpl]
theorem inpl_at {α : Type} (z : α) (f : α → α) (l : List α) (i : Nat) (h : i < l.length) : (inpl f l i).getD i z = l.getD i z := by
  unfold inpl
  have h1 : ((l.take i).map f).length = i := by simp; omega
  rw [List.getD, List.getElem?_append_right (by omega), h1, Nat.sub_self]
  simp [List.getD, h]
theorem inpl_set {α : Type} (z : α) (f : α → α) (l : List α) (i : Nat) (h : i < l.length) : (inpl f l i).set i (f (l.getD i z)) = inpl f l (i + 1) := by
  unfold inpl
  have h1 : ((l.take i).map f).length = i := by simp; omega
  rw [List.set_append_right _ _ (by omega), h1, Nat.sub_self, List.drop_eq_getElem_cons h, List.set_cons_zero, List.take_succ_eq_append_getElem h, List.map_append, List.append_assoc]
  simp [List.getD, h]
theorem take_up {α β : Type} (z : α) (f : α → β) (l : List α) (i : Nat) (h : i < l.length) : (l.take (i + 1)).map f = (l.take i).map f ++ [f (l.getD i z)] := by
  rw [List.take_succ_eq_append_getElem h, List.map_append]
  simp [List.getD, h]

theorem cloneChange (l : List S55) (hl : l.length ≤ 1048576) : clone_Change.f l = some l := by
  unfold clone_Change.f
  simp only [Option.bind_some]
  rw [if_pos (by simp; omega)]
  rfl

theorem tlet {α β : Type} {v : α} {g : Nat → α → Option β} {Q : β → Prop} (h : Tot (fun k => g k v) Q) : Tot (fun k => (some v).bind fun y => g k y) Q := h
theorem take_drop_erase {α : Type} (l : List α) (m : Nat) : l.take m ++ l.drop (m + 1) = l.eraseIdx m := (List.eraseIdx_eq_take_drop_succ l m).symm
theorem wrapN1 (m : Nat) (h : m ≤ 1048576) : wrap64 ((m : Int) + 1) = ((m + 1 : Nat) : Int) := by rw [wrap64_id (by omega) (by omega)]; rfl
theorem erase_len {α : Type} (l : List α) (m : Nat) (h : l.length ≤ 1048576) : (l.eraseIdx m).length ≤ 1048576 := Nat.le_trans (List.length_eraseIdx_le l m) h

theorem deleteChange (l : List S55) (m : Nat) (h : m < l.length) (hl : l.length ≤ 1048576) : delete_Change.f l (m : Int) ((m + 1 : Nat) : Int) = some (l.eraseIdx m) := by
  unfold delete_Change.f
  rw [if_pos (by omega), if_pos (by omega), if_pos (wrapN1 m (by omega)).symm, Int.toNat_natCast]

theorem DropTempo_agree (l : List S55) (p : Int) (hl : l.length ≤ 1048576) : ∃ r, Tot (fun k => spec_DropTempo.f k l p) (fun y => y = r) ∧ Tot (fun k => impl_DropTempo.f k l p) (fun y => y = r) ∧ r.1.length ≤ 1048576 := by
  have iF : Tot (fun k => impl_DropTempo.j0 k l p true) (fun y => y = ([], false)) := by
    refine tstep ?_
    simp only [impl_DropTempo.j0, if_true]
    exact tsome rfl
  by_cases hg : TeGood l ∧ 1 ≤ p ∧ p ≤ (l.length : Int) - 1
  · obtain ⟨hg, hp⟩ := hg
    obtain ⟨m, rfl⟩ := Int.eq_ofNat_of_zero_le (show 0 ≤ p by omega)
    refine ⟨(l.eraseIdx m, true), ?_, ?_, erase_len l m hl⟩
    · unfold spec_DropTempo.f
      refine tbind (teGood_tot l hl) (fun b h => tpos (h.2 hg) ?_)
      rw [l1In_eq, wrap64_id (x := (l.length : Int) - 1) (by omega) (by omega), decide_eq_true hp, wrapN1 m (by omega), Int.toNat_natCast, Int.toNat_natCast]
      refine tlet (tpos rfl ?_)
      refine tlet ?_
      refine tpos (by omega) (tpos (by omega) ?_)
      refine tlet ?_
      refine tpos (by rw [List.length_take, List.length_nil]; omega) ?_
      refine tlet ?_
      refine tpos (by omega) (tpos (by omega) ?_)
      refine tlet ?_
      refine tpos (by rw [List.length_append, List.length_take, List.length_drop, List.length_nil]; omega) (tsome ?_)
      rw [List.nil_append, take_drop_erase]
    · unfold impl_DropTempo.f
      refine tbind (areTempos_tot l hl) (fun b h => tpos (h.2 hg) (tneg (by omega) ?_))
      rw [decide_eq_false (show ¬ ((m : Int) ≥ (l.length : Int)) by omega)]
      refine tstep ?_
      simp only [impl_DropTempo.j0, cloneChange l hl, Option.bind_some, wrapN1 m (show m ≤ 1048576 by omega), deleteChange l m (show m < l.length by omega) hl]
      exact tneg (by simp) (tsome rfl)
  · refine ⟨([], false), ?_, ?_, by simp⟩
    · unfold spec_DropTempo.f
      refine tbind (teGood_tot l hl) (fun b h => tite (fun c => ?_) (fun c => tsome rfl))
      rw [l1In_eq, wrap64_id (x := (l.length : Int) - 1) (by omega) (by omega), decide_eq_false (fun hh => hg ⟨h.1 c, hh⟩)]
      exact tlet (tneg (by simp) (tsome rfl))
    · unfold impl_DropTempo.f
      refine tbind (areTempos_tot l hl) (fun b h => tite (fun c => tite (fun c2 => iF) (fun c2 => ?_)) (fun c => iF))
      rw [decide_eq_true (show p ≥ (l.length : Int) from Classical.byContradiction fun hh => hg ⟨h.1 c, by omega⟩)]
      exact iF


theorem FnExactDropTempo (l0 : List (S57)) (a1 : Int) (hm0 : l0.length ≤ 9223372036854775807) (hw0 : ∀ y ∈ l0, Glue.wf64 y.f0 ∧ Glue.wf64 y.f1) (w1 : Glue.wf64 a1) : ∃ k, laws_FnExactDropTempo.f k l0 a1 = some true := by
  refine rounds ?_
  unfold laws_FnExactDropTempo.f
  rw [szChangeS l0 (1048576 : Int) (by omega) (by omega) hm0]
  simp only [Option.bind_some]
  by_cases hl0 : (1048576 : Int) < (l0.length : Int)
  · simp only [if_pos hl0]; exact tpos (by omega) (tsome rfl)
  simp only [if_neg hl0]
  refine tneg (by omega) ?_
  obtain ⟨r, hS, hI, hR⟩ := DropTempo_agree (l0.map cvChange) a1 (by simp; omega)
  repeat first
    | exact tsome rfl
    | (refine tbind hS (fun _ e => ?_); subst e)
    | (refine tbind hI (fun _ e => ?_); subst e)
    | (refine tbind (toChangeS l0 (by omega)) (fun _ e => ?_); subst e)
    | (refine tbind (eqChangeS _ (by first | omega | (dsimp only; omega) | (simp; omega) | assumption)) (fun _ e => ?_); subst e)
    | (refine tbind (eqChangeS _ (by first | assumption | omega | (dsimp only; omega) | (simp; omega))) (fun _ e => ?_); subst e)
    | (refine tbind (markChangeS _ 1 (by first | assumption | omega | (dsimp only; omega) | (simp; omega)) (by omega) (by omega)) (fun _ e => ?_); subst e)
    | (refine tbind (heldChangeS 1 _ (by first | omega | (simp; omega)) (by omega) (by omega)) (fun _ e => ?_); subst e)
    | (refine tbind (markChangeS _ _ (by first | omega | (simp; omega)) (by omega) (by omega)) (fun _ e => ?_); subst e)
    | refine tpos rfl ?_
    | refine tneg (by dsimp only; omega) ?_
    | refine tneg (by omega) ?_
    | refine tneg (by simp; done) ?_
    | refine tpos (by dsimp only) ?_
    | (refine tstep ?_; simp only [laws_FnExactDropTempo.j0])
    | (refine tstep ?_; simp only [laws_FnExactDropTempo.j1])
    | (refine tstep ?_; simp only [laws_FnExactDropTempo.j2])
end Go.Proofs.Ytfpfjnmjekjnhaa.Pure
