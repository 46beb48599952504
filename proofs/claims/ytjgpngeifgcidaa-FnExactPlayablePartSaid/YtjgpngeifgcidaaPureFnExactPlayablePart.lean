/- The plain side of the law FnExactPlayablePart: lists and numbers alone. -/
import Derived.Test.YtjgpngeifgcidaaPFnExactPlayablePartx10
import Derived.Test.YtjgpngeifgcidaaGlue
import Derived.Test.YtjgpngeifgcidaaTot
set_option linter.unusedVariables false
set_option linter.unusedSimpArgs false
namespace Go.Proofs.Ytjgpngeifgcidaa.Pure
open Go.RowKit Go.Proofs.Ytjgpngeifgcidaa.PFnExactPlayablePart Go.Proofs.YtjgpngeifgcidaaW.PrintWords Go.Proofs.YtjgpngeifgcidaaW.PrintMore Go.Proofs.Ytjgpngeifgcidaa.Tot

theorem l1In_eq (a b c : Int) : spec_l1In.f a b c = some (decide (b ≤ a ∧ a ≤ c)) := by
  unfold spec_l1In.f
  by_cases h : b ≤ a <;> simp [h]

def cvNote (x : S94) : S92 := ⟨x.f0, x.f1, x.f2⟩
theorem toNoteS (l : List S94) (hl : l.length ≤ 1048576) : Tot (fun k => laws_toNoteS.f k l) (fun r => r = l.map cvNote) := by
  unfold laws_toNoteS.f
  refine tpos (by omega) (tpos (by omega) ?_)
  have key := trec (σ := List S92 × Int) (fun s k => laws_toNoteS.l0 k l s.1 s.2) (fun s => ((l.length : Int) - s.2).toNat)
    (fun s => 0 ≤ s.2 ∧ s.2 ≤ (l.length : Int) ∧ s.1.length = l.length ∧ ∀ j : Int, 0 ≤ j → j < s.2 → s.1.getD j.toNat z92 = cvNote (l.getD j.toNat z94)) (fun _ r => r = l.map cvNote) ?_
  · exact key (List.replicate (l.length : Int).toNat z92, 0) ⟨Int.le_refl _, by dsimp only; omega, by simp, fun j h0 h1 => by dsimp only at h1; omega⟩
  · rintro ⟨ys, i⟩ ⟨h0, h1, h2, h3⟩ ih
    dsimp only at h0 h1 h2 h3
    simp only [laws_toNoteS.l0, laws_toNote.f, Option.bind_some]
    refine tite (fun c => ?_) (fun c => ?_)
    · refine tpos h0 (tpos (by omega) ?_)
      rw [wrap64_id (by omega) (by omega)]
      refine ih (_, i + 1) ⟨by dsimp only; omega, by dsimp only; omega, by simp [h2], ?_⟩ (by dsimp only; omega)
      intro j hj0 hj1
      dsimp only at hj1 ⊢
      by_cases e : j = i
      · subst e; rw [ld_set_self _ _ (by omega) hj0]; rfl
      · rw [ld_set_ne _ _ _ h0 hj0 (by omega)]; exact h3 j hj0 (by omega)
    · exact tsome (write_end h2 (fun j a b => h3 j a (by omega)))

theorem eqNoteS (l : List S92) (hl : l.length ≤ 1048576) : Tot (fun k => laws_eqNoteS.f k l l) (fun r => r = true) := by
  unfold laws_eqNoteS.f
  refine tpos rfl ?_
  refine trec (σ := Int) (fun i k => laws_eqNoteS.l0 k l l i) (fun i => ((l.length : Int) - i).toNat) (fun i => 0 ≤ i ∧ i ≤ (l.length : Int)) (fun _ r => r = true) ?_ 0 ⟨Int.le_refl _, by omega⟩
  rintro i ⟨h0, h1⟩ ih
  simp only [laws_eqNoteS.l0, laws_eqNote.f, if_true, Option.bind_some]
  refine tite (fun c => ?_) (fun c => tsome rfl)
  refine tpos h0 (tpos (by omega) ?_)
  rw [wrap64_id (by omega) (by omega)]
  exact ih (i + 1) ⟨by omega, by omega⟩ (by (try dsimp only); omega)

theorem szNoteS (l : List S94) (n : Int) (hn : 0 ≤ n) (hn2 : n ≤ 1048576) (hl : l.length ≤ 9223372036854775807) : laws_szNoteS.f l n = some (if n < l.length then -1 else n - l.length) := by
  unfold laws_szNoteS.f
  simp (disch := omega) only [wrap64_id]
  by_cases h : n < l.length
  · rw [if_pos (by omega), if_pos h]
  · rw [if_neg (by omega), if_neg h]

abbrev OkNote (a b c : Int) : Prop := 24 ≤ a ∧ a ≤ 96 ∧ 0 ≤ b ∧ b ≤ 999 ∧ 1 ≤ c ∧ c ≤ 99
theorem ntNote_eq (a b c : Int) : spec_ntNote.f a b c = some (decide (OkNote a b c)) := by
  unfold spec_ntNote.f spec_ntPitch.f OkNote
  simp only [l1In_eq, Option.bind_some, decide_eq_true_eq]
  split
  · split
    · congr 1; rw [Bool.eq_iff_iff]; simp only [decide_eq_true_eq]; omega
    · congr 1; rw [Bool.eq_iff_iff]; simp only [decide_eq_true_eq]; simp; omega
  · congr 1; rw [Bool.eq_iff_iff]; simp only [decide_eq_true_eq]; simp; omega
theorem implIsNote_eq (a b c : Int) : impl_IsNote.f a b c = some (decide (OkNote a b c)) := by
  unfold impl_IsNote.f OkNote
  by_cases h1 : 24 ≤ a <;> by_cases h2 : a ≤ 96 <;> by_cases h3 : 0 ≤ b <;> by_cases h4 : b ≤ 999 <;> by_cases h5 : 1 ≤ c <;> simp [h1, h2, h3, h4, h5] <;> omega

def ntLess (x y : S92) : Prop := x.f1 < y.f1 ∨ (x.f1 = y.f1 ∧ x.f0 < y.f0)
def ntMeet (x y : S92) : Prop := x.f0 = y.f0 ∧ y.f1 < x.f1 + x.f2
def ntA (l : List S92) (j : Int) : Prop := OkNote (rd_T92 l j).f0 (rd_T92 l j).f1 (rd_T92 l j).f2 ∧ (0 < j → ntLess (rd_T92 l (j - 1)) (rd_T92 l j))
def ntC (l : List S92) (j : Int) : Prop := OkNote (rd_T92 l j).f0 (rd_T92 l j).f1 (rd_T92 l j).f2 ∧ (0 < j → ntLess (rd_T92 l (j - 1)) (rd_T92 l j)) ∧ (∀ p : Int, 0 ≤ p → p < j → ¬ ntMeet (rd_T92 l p) (rd_T92 l j))
theorem nt_take (l : List S92) (i p : Int) (h0 : 0 ≤ p) (h : p < i) : rd_T92 (l.take i.toNat) p = rd_T92 l p := by
  unfold rd_T92
  exact ld_take i.toNat p h0 (by omega)
theorem nt_start (l : List S92) (i : Int) (hp : ∀ j : Int, 0 ≤ j → j < i → ntC l j) (hi : 0 < i → ntLess (rd_T92 l (i - 1)) (rd_T92 l i)) (p : Int) (p0 : 0 ≤ p) (p1 : p < i) : (rd_T92 l p).f1 ≤ (rd_T92 l i).f1 := by
  have key : ∀ (d : Nat) (j : Int), j = p + d → j ≤ i → (rd_T92 l p).f1 ≤ (rd_T92 l j).f1 := by
    intro d
    induction d with
    | zero => intro j e _; rw [show j = p by omega]; exact Int.le_refl _
    | succ d ih =>
      intro j e h
      have h1 := ih (j - 1) (by omega) (by omega)
      have h2 : ntLess (rd_T92 l (j - 1)) (rd_T92 l j) := by
        by_cases e2 : j = i
        · rw [e2]; exact hi (by omega)
        · exact (hp j (by omega) (by omega)).2.1 (by omega)
      unfold ntLess at h2
      omega
  exact key (i - p).toNat i (by omega) (Int.le_refl _)

def ntGood (l : List S92) : Prop := (∀ j : Int, 0 ≤ j → j < (l.length : Int) → ntC l j) ∧ (l.length : Int) ≤ 30
theorem ntBefore_eq (a b c d e f : Int) : spec_ntBefore.f a b c d e f = some (decide (b < e ∨ (b = e ∧ a < d))) := by
  unfold spec_ntBefore.f
  by_cases h1 : b < e <;> by_cases h2 : b = e <;> simp [h1, h2]
theorem noteLess_eq (a b c d e f : Int) : impl_noteLess.f a b c d e f = some (decide (b < e ∨ (b = e ∧ a < d))) := by
  unfold impl_noteLess.f
  by_cases h2 : b = e
  · subst h2; simp
  · simp [h2]
theorem ntMeet_eq (a b c d e f : Int) (h : OkNote a b c) (g : OkNote d e f) : spec_ntMeet.f a b c d e f = some (decide (a = d ∧ b < e + f ∧ e < b + c)) := by
  unfold spec_ntMeet.f
  unfold OkNote at h g
  rw [wrap64_id (x := e + f) (by omega) (by omega), wrap64_id (x := b + c) (by omega) (by omega)]
  by_cases h1 : a = d <;> by_cases h2 : b < e + f <;> simp [h1, h2]
theorem noteEnd_eq (a b c : Int) (h : OkNote a b c) : impl_noteEnd.f a b c = some (b + c) := by
  unfold impl_noteEnd.f
  unfold OkNote at h
  rw [wrap64_id (by omega) (by omega)]

theorem nt_spec_ntGood_loop (l : List S92) (hl : l.length ≤ 1048576) : Tot (fun k => spec_ntGood.l0 k l l (l.length : Int) 0) (fun b => (b = true) ↔ ((∀ j : Int, 0 ≤ j → j < (l.length : Int) → ntC l j) ∧ (l.length : Int) ≤ 30)) := by
  refine trec (σ := Int) (fun i k => spec_ntGood.l0 k l l (l.length : Int) i) (fun i => ((l.length : Int) - i).toNat) (fun i => 0 ≤ i ∧ i ≤ (l.length : Int) ∧ ∀ j : Int, 0 ≤ j → j < i → ntC l j)
    (fun i b => (b = true) ↔ ((∀ j : Int, i ≤ j → j < (l.length : Int) → ntC l j) ∧ (l.length : Int) ≤ 30)) ?_ 0 ⟨Int.le_refl _, by omega, fun j a b => by omega⟩
  rintro i ⟨h0, h1, hp⟩ ih
  have hno : i < (l.length : Int) → ¬ ntC l i → Tot (fun _ => some false) (fun b => (b = true) ↔ ((∀ j : Int, i ≤ j → j < (l.length : Int) → ntC l j) ∧ (l.length : Int) ≤ 30)) := fun a b => tsome (all_no a b)
  have hjT : i < (l.length : Int) → ¬ ntA l i → Tot (fun k => spec_ntGood.j1 k l i l (l.length : Int) i true (rd_T92 l i).f0 (rd_T92 l i).f1 (rd_T92 l i).f2) (fun b => (b = true) ↔ ((∀ j : Int, i ≤ j → j < (l.length : Int) → ntC l j) ∧ (l.length : Int) ≤ 30)) := by
    intro a b
    refine tstep ?_
    simp only [spec_ntGood.j1, if_true]
    exact hno a (fun h => b ⟨h.1, h.2.1⟩)
  have hjF : i < (l.length : Int) → ntA l i → Tot (fun k => spec_ntGood.j1 k l i l (l.length : Int) i false (rd_T92 l i).f0 (rd_T92 l i).f1 (rd_T92 l i).f2) (fun b => (b = true) ↔ ((∀ j : Int, i ≤ j → j < (l.length : Int) → ntC l j) ∧ (l.length : Int) ≤ 30)) := by
    intro a hA
    refine tstep ?_
    simp only [spec_ntGood.j1, Option.bind_some]
    refine tneg (by simp) (tpos h0 (tpos h1 ?_))
    have hlen : ((l.take i.toNat).length : Int) = i := by simp; omega
    rw [hlen]
    refine trec (σ := Int) (fun p k => spec_ntGood.l1 k l l (l.length : Int) i (l.take i.toNat) i p (rd_T92 l i).f0 (rd_T92 l i).f1 (rd_T92 l i).f2) (fun p => (i - p).toNat) (fun p => 0 ≤ p ∧ p ≤ i ∧ ∀ q : Int, 0 ≤ q → q < p → ¬ ntMeet (rd_T92 l q) (rd_T92 l i))
      (fun _ => (fun b => (b = true) ↔ ((∀ j : Int, i ≤ j → j < (l.length : Int) → ntC l j) ∧ (l.length : Int) ≤ 30))) ?_ 0 ⟨Int.le_refl _, h0, fun q a b => by omega⟩
    rintro p ⟨p0, p1, pq⟩ ihp
    simp only [spec_ntGood.l1, hlen, wrap64_id (show -9223372036854775808 ≤ i + 1 by omega) (by omega), wrap64_id (show -9223372036854775808 ≤ p + 1 by omega) (by omega)]
    refine tite (fun c => ?_) (fun c => ?_)
    · refine tpos p0 (tpos c ?_)
      simp only [nt_take l i p p0 c]
      have hs := nt_start l i hp hA.2 p p0 c
      have o1 := (hp p p0 c).1
      have o2 := hA.1
      simp only [ntMeet_eq _ _ _ _ _ _ o2 o1, Option.bind_some, decide_eq_true_eq]
      unfold OkNote at o1 o2
      have go : ¬ ntMeet (rd_T92 l p) (rd_T92 l i) → Tot (fun k => spec_ntGood.l1 k l l (l.length : Int) i (l.take i.toNat) i (p + 1) (rd_T92 l i).f0 (rd_T92 l i).f1 (rd_T92 l i).f2) (fun b => (b = true) ↔ ((∀ j : Int, i ≤ j → j < (l.length : Int) → ntC l j) ∧ (l.length : Int) ≤ 30)) := fun hm =>
        ihp (p + 1) ⟨by omega, by omega, fun q q0 q1 => by
          by_cases e : q = p
          · rw [e]; exact hm
          · exact pq q q0 (by omega)⟩ (by (try dsimp only); omega)
      repeat' (refine tite (fun _ => ?_) (fun _ => ?_))
      all_goals first
        | exact go (by unfold ntMeet; omega)
        | exact hno a (fun h => h.2.2 p p0 c (by unfold ntMeet; omega))
    · have Ci : ntC l i := ⟨hA.1, hA.2, fun q q0 q1 => pq q q0 (by omega)⟩
      exact tmono (ih (i + 1) ⟨by omega, by omega, fun j j0 j1 => by
        by_cases e : j = i
        · rw [e]; exact Ci
        · exact hp j j0 (by omega)⟩ (by (try dsimp only); omega)) (fun b hb => all_go a Ci hb)
  simp only [spec_ntGood.l0, ntNote_eq, ntBefore_eq, Option.bind_some, decide_eq_true_eq]
  simp only [show wrap64 (i - 1) = i - 1 from wrap64_id (by omega) (by omega)]
  by_cases hL : ntLess (rd_T92 l (i - 1)) (rd_T92 l i)
  all_goals
    have hL2 := hL
    unfold ntLess at hL2
    simp only [hL2, decide_true, decide_false, Bool.not_true, Bool.not_false]
    repeat' (refine tite (fun _ => ?_) (fun _ => ?_))
    all_goals first
      | (exfalso; omega)
      | exact hjF (by omega) ⟨by assumption, fun _ => hL⟩
      | exact hjF (by omega) ⟨by assumption, fun h => absurd h (by omega)⟩
      | exact hjT (by omega) (fun h => absurd h.1 (by assumption))
      | exact hjT (by omega) (fun h => absurd (h.2 (by omega)) hL)
      | exact tsome (all_end (by omega) (by simp only [decide_eq_true_eq]))

theorem nt_impl_IsScore_loop (l : List S92) (hl : l.length ≤ 1048576) : Tot (fun k => impl_IsScore.l0 k l l (l.length : Int) 0) (fun b => (b = true) ↔ ((∀ j : Int, 0 ≤ j → j < (l.length : Int) → ntC l j) ∧ True)) := by
  refine trec (σ := Int) (fun i k => impl_IsScore.l0 k l l (l.length : Int) i) (fun i => ((l.length : Int) - i).toNat) (fun i => 0 ≤ i ∧ i ≤ (l.length : Int) ∧ ∀ j : Int, 0 ≤ j → j < i → ntC l j)
    (fun i b => (b = true) ↔ ((∀ j : Int, i ≤ j → j < (l.length : Int) → ntC l j) ∧ True)) ?_ 0 ⟨Int.le_refl _, by omega, fun j a b => by omega⟩
  rintro i ⟨h0, h1, hp⟩ ih
  have hno : i < (l.length : Int) → ¬ ntC l i → Tot (fun _ => some false) (fun b => (b = true) ↔ ((∀ j : Int, i ≤ j → j < (l.length : Int) → ntC l j) ∧ True)) := fun a b => tsome (all_no a b)
  have hjT : i < (l.length : Int) → ¬ ntA l i → Tot (fun k => impl_IsScore.j1 k l i l (l.length : Int) i true (rd_T92 l i).f0 (rd_T92 l i).f1 (rd_T92 l i).f2) (fun b => (b = true) ↔ ((∀ j : Int, i ≤ j → j < (l.length : Int) → ntC l j) ∧ True)) := by
    intro a b
    refine tstep ?_
    simp only [impl_IsScore.j1, if_true]
    exact hno a (fun h => b ⟨h.1, h.2.1⟩)
  have hjF : i < (l.length : Int) → ntA l i → Tot (fun k => impl_IsScore.j1 k l i l (l.length : Int) i false (rd_T92 l i).f0 (rd_T92 l i).f1 (rd_T92 l i).f2) (fun b => (b = true) ↔ ((∀ j : Int, i ≤ j → j < (l.length : Int) → ntC l j) ∧ True)) := by
    intro a hA
    refine tstep ?_
    simp only [impl_IsScore.j1, Option.bind_some]
    refine tneg (by simp) (tpos h0 (tpos h1 ?_))
    have hlen : ((l.take i.toNat).length : Int) = i := by simp; omega
    rw [hlen]
    refine trec (σ := Int) (fun p k => impl_IsScore.l1 k l l (l.length : Int) i (l.take i.toNat) i p (rd_T92 l i).f0 (rd_T92 l i).f1 (rd_T92 l i).f2) (fun p => (i - p).toNat) (fun p => 0 ≤ p ∧ p ≤ i ∧ ∀ q : Int, 0 ≤ q → q < p → ¬ ntMeet (rd_T92 l q) (rd_T92 l i))
      (fun _ => (fun b => (b = true) ↔ ((∀ j : Int, i ≤ j → j < (l.length : Int) → ntC l j) ∧ True))) ?_ 0 ⟨Int.le_refl _, h0, fun q a b => by omega⟩
    rintro p ⟨p0, p1, pq⟩ ihp
    simp only [impl_IsScore.l1, hlen, wrap64_id (show -9223372036854775808 ≤ i + 1 by omega) (by omega), wrap64_id (show -9223372036854775808 ≤ p + 1 by omega) (by omega)]
    refine tite (fun c => ?_) (fun c => ?_)
    · refine tpos p0 (tpos c ?_)
      simp only [nt_take l i p p0 c]
      have hs := nt_start l i hp hA.2 p p0 c
      have o1 := (hp p p0 c).1
      have o2 := hA.1
      simp only [noteEnd_eq _ _ _ o1, Option.bind_some]
      unfold OkNote at o1 o2
      have go : ¬ ntMeet (rd_T92 l p) (rd_T92 l i) → Tot (fun k => impl_IsScore.l1 k l l (l.length : Int) i (l.take i.toNat) i (p + 1) (rd_T92 l i).f0 (rd_T92 l i).f1 (rd_T92 l i).f2) (fun b => (b = true) ↔ ((∀ j : Int, i ≤ j → j < (l.length : Int) → ntC l j) ∧ True)) := fun hm =>
        ihp (p + 1) ⟨by omega, by omega, fun q q0 q1 => by
          by_cases e : q = p
          · rw [e]; exact hm
          · exact pq q q0 (by omega)⟩ (by (try dsimp only); omega)
      repeat' (refine tite (fun _ => ?_) (fun _ => ?_))
      all_goals first
        | exact go (by unfold ntMeet; omega)
        | exact hno a (fun h => h.2.2 p p0 c (by unfold ntMeet; omega))
    · have Ci : ntC l i := ⟨hA.1, hA.2, fun q q0 q1 => pq q q0 (by omega)⟩
      exact tmono (ih (i + 1) ⟨by omega, by omega, fun j j0 j1 => by
        by_cases e : j = i
        · rw [e]; exact Ci
        · exact hp j j0 (by omega)⟩ (by (try dsimp only); omega)) (fun b hb => all_go a Ci hb)
  simp only [impl_IsScore.l0, implIsNote_eq, noteLess_eq, Option.bind_some, decide_eq_true_eq]
  simp only [show wrap64 (i - 1) = i - 1 from wrap64_id (by omega) (by omega)]
  by_cases hL : ntLess (rd_T92 l (i - 1)) (rd_T92 l i)
  all_goals
    have hL2 := hL
    unfold ntLess at hL2
    simp only [hL2, decide_true, decide_false, Bool.not_true, Bool.not_false]
    repeat' (refine tite (fun _ => ?_) (fun _ => ?_))
    all_goals first
      | (exfalso; omega)
      | exact hjF (by omega) ⟨by assumption, fun _ => hL⟩
      | exact hjF (by omega) ⟨by assumption, fun h => absurd h (by omega)⟩
      | exact hjT (by omega) (fun h => absurd h.1 (by assumption))
      | exact hjT (by omega) (fun h => absurd (h.2 (by omega)) hL)
      | exact tsome (all_end (by omega) (by simp))

theorem ntGood_tot (l : List S92) (hl : l.length ≤ 1048576) : Tot (fun k => spec_ntGood.f k l) (fun b => (b = true) ↔ ntGood l) := by
  unfold spec_ntGood.f
  exact nt_spec_ntGood_loop l hl
theorem isScore_tot (l : List S92) (hl : l.length ≤ 1048576) : Tot (fun k => impl_IsScore.f k l) (fun b => (b = true) ↔ ntGood l) := by
  unfold impl_IsScore.f ntGood
  refine tite (fun c => tsome ⟨(fun h => by simp at h), (fun h => by have := h.2; omega)⟩) (fun c => ?_)
  refine tmono (nt_impl_IsScore_loop l hl) (fun b hb => ?_)
  rw [hb]
  exact ⟨fun h => ⟨h.1, by omega⟩, fun h => ⟨h.1, trivial⟩⟩

def mkNote (j : Int) (n : Nat) : List S92 := (List.range n).map fun i : Nat => (⟨j + 3 * (i : Int) + 0, j + 3 * (i : Int) + 1, j + 3 * (i : Int) + 2⟩ : S92)
theorem mkNote_at (j : Int) (n : Nat) (i : Int) (h0 : 0 ≤ i) (h : i < n) : rd_T92 (mkNote j n) i = ⟨j + 3 * i + 0, j + 3 * i + 1, j + 3 * i + 2⟩ := by
  obtain ⟨m, rfl⟩ := Int.eq_ofNat_of_zero_le h0
  have hm : m < n := by omega
  unfold rd_T92 mkNote
  simp [List.getD, hm]
theorem markNoteS (l : List S92) (j : Int) (hl : l.length ≤ 1048576) (hj : 0 ≤ j) (hj2 : j ≤ 1125899906842624) : Tot (fun k => laws_markNoteS.f k l j) (fun r => r = (j + 3 * (l.length : Int), mkNote j l.length)) := by
  unfold laws_markNoteS.f
  have key := trec (σ := List S92 × Int) (fun s k => laws_markNoteS.l0 k s.1 (j + 3 * s.2) s.2) (fun s => ((l.length : Int) - s.2).toNat)
    (fun s => 0 ≤ s.2 ∧ s.2 ≤ (l.length : Int) ∧ s.1.length = l.length ∧ ∀ i : Int, 0 ≤ i → i < s.2 → rd_T92 s.1 i = rd_T92 (mkNote j l.length) i) (fun _ r => r = (j + 3 * (l.length : Int), mkNote j l.length)) ?_
  · have h := key (l, 0) ⟨Int.le_refl _, by dsimp only; omega, rfl, fun i h0 h1 => by dsimp only at h1; omega⟩
    simpa using h
  · rintro ⟨ys, i⟩ ⟨h0, h1, h2, h3⟩ ih
    dsimp only at h0 h1 h2 h3
    simp only [laws_markNoteS.l0, Option.bind_some]
    refine tite (fun c => ?_) (fun c => ?_)
    · refine tpos h0 ?_
      have hi : i.toNat < ys.length := by omega
      have e : ∀ x : S92, rd_T92 (ys.set i.toNat x) i = x := fun x => by
        unfold rd_T92; exact ld_set_self x i (by omega) h0
      simp only [e, List.set_set, wrap64_id (x := j + 3 * i + 1) (by omega) (by omega), wrap64_id (x := j + 3 * i + 1 + 1) (by omega) (by omega), wrap64_id (x := j + 3 * i + 1 + 1 + 1) (by omega) (by omega)]
      rw [show j + 3 * i + 1 + 1 + 1 = j + 3 * (i + 1) by omega, wrap64_id (x := i + 1) (by omega) (by omega)]
      refine ih (_, i + 1) ⟨by dsimp only; omega, by dsimp only; omega, by simp [h2], ?_⟩ (by dsimp only; omega)
      intro p p0 p1
      dsimp only at p1 ⊢
      by_cases ep : p = i
      · subst ep
        rw [e, mkNote_at j _ p p0 (by omega)]
        congr 1 <;> omega
      · unfold rd_T92
        rw [ld_set_ne _ _ _ h0 p0 (by omega)]
        exact h3 p p0 (by omega)
    · obtain rfl : i = (l.length : Int) := by omega
      refine tsome ?_
      congr 1
      refine ld_ext (z := z92) (by simp [mkNote, h2]) (fun p p0 p1 => ?_)
      exact h3 p p0 (by omega)

theorem heldNoteS (j : Int) (n : Nat) (hn : n ≤ 1048576) (hj : 0 ≤ j) (hj2 : j ≤ 1125899906842624) : Tot (fun k => laws_heldNoteS.f k (mkNote j n) j) (fun r => r = j + 3 * (n : Int)) := by
  unfold laws_heldNoteS.f
  have hlen : ((mkNote j n).length : Int) = n := by simp [mkNote]
  have key := trec (σ := Int) (fun i k => laws_heldNoteS.l0 k (mkNote j n) (j + 3 * i) i) (fun i => ((n : Int) - i).toNat) (fun i => 0 ≤ i ∧ i ≤ (n : Int)) (fun _ r => r = j + 3 * (n : Int)) ?_ 0 ⟨Int.le_refl _, by omega⟩
  · simpa using key
  · rintro i ⟨h0, h1⟩ ih
    simp only [laws_heldNoteS.l0, hlen]
    refine tite (fun c => ?_) (fun c => ?_)
    · refine tpos h0 ?_
      simp only [mkNote_at j n i h0 c]
      simp only [wrap64_id (x := j + 3 * i + 1) (by omega) (by omega), wrap64_id (x := j + 3 * i + 1 + 1) (by omega) (by omega), wrap64_id (x := j + 3 * i + 1 + 1 + 1) (by omega) (by omega)]
      refine tpos (by first | trivial | omega) ?_
      refine tpos (by first | trivial | omega) ?_
      refine tpos (by first | trivial | omega) ?_
      rw [show j + 3 * i + 1 + 1 + 1 = j + 3 * (i + 1) by omega, wrap64_id (x := i + 1) (by omega) (by omega)]
      exact ih (i + 1) ⟨by omega, by omega⟩ (by (try dsimp only); omega)
    · exact tsome (by omega)

theorem rd_eq (xs : List Int) (i : Int) : rd xs i = xs.getD i.toNat 0 := rfl

theorem toIntS (l : List Int) (hl : l.length ≤ 1048576) : Tot (fun k => laws_toIntS.f k l) (fun r => r = l) := by
  unfold laws_toIntS.f
  refine tpos (by omega) (tpos (by omega) ?_)
  have key := trec (σ := List Int × Int) (fun s k => laws_toIntS.l0 k l s.1 s.2) (fun s => ((l.length : Int) - s.2).toNat)
    (fun s => 0 ≤ s.2 ∧ s.2 ≤ (l.length : Int) ∧ s.1.length = l.length ∧ ∀ j : Int, 0 ≤ j → j < s.2 → s.1.getD j.toNat 0 = l.getD j.toNat 0) (fun _ r => r = l) ?_
  · exact key (List.replicate (l.length : Int).toNat 0, 0) ⟨Int.le_refl _, by dsimp only; omega, by simp, fun j h0 h1 => by dsimp only at h1; omega⟩
  · rintro ⟨ys, i⟩ ⟨h0, h1, h2, h3⟩ ih
    dsimp only at h0 h1 h2 h3
    simp only [laws_toIntS.l0]
    refine tite (fun c => ?_) (fun c => ?_)
    · refine tpos h0 (tpos (by omega) ?_)
      rw [wrap64_id (by omega) (by omega)]
      refine ih (_, i + 1) ⟨by dsimp only; omega, by dsimp only; omega, by simp [h2], ?_⟩ (by dsimp only; omega)
      intro j hj0 hj1
      dsimp only at hj1 ⊢
      by_cases e : j = i
      · subst e; rw [ld_set_self _ _ (by omega) hj0]; rfl
      · rw [ld_set_ne _ _ _ h0 hj0 (by omega)]; exact h3 j hj0 (by omega)
    · exact tsome (ld_ext (z := 0) h2 (fun j a b => h3 j a (by omega)))

theorem eqIntS (l : List Int) (hl : l.length ≤ 1048576) : Tot (fun k => laws_eqIntS.f k l l) (fun r => r = true) := by
  unfold laws_eqIntS.f
  refine tpos rfl ?_
  refine trec (σ := Int) (fun i k => laws_eqIntS.l0 k l l i) (fun i => ((l.length : Int) - i).toNat) (fun i => 0 ≤ i ∧ i ≤ (l.length : Int)) (fun _ r => r = true) ?_ 0 ⟨Int.le_refl _, by omega⟩
  rintro i ⟨h0, h1⟩ ih
  simp only [laws_eqIntS.l0, if_true]
  refine tite (fun c => ?_) (fun c => tsome rfl)
  refine tpos h0 (tpos (by omega) ?_)
  rw [wrap64_id (by omega) (by omega)]
  exact ih (i + 1) ⟨by omega, by omega⟩ (by (try dsimp only); omega)

theorem szIntS (l : List Int) (n : Int) (hn : 0 ≤ n) (hn2 : n ≤ 1048576) (hl : l.length ≤ 9223372036854775807) : laws_szIntS.f l n = some (if n < l.length then -1 else n - l.length) := by
  unfold laws_szIntS.f
  simp only [wrap64_id (x := n - (l.length : Int)) (by omega) (by omega)]
  by_cases h : n < l.length
  · rw [if_pos (by omega), if_pos h]
  · rw [if_neg (by omega), if_neg h]

def mkInts (j : Int) (n : Nat) : List Int := (List.range n).map fun i : Nat => j + (i : Int)
theorem mkInts_at (j : Int) (n : Nat) (i : Int) (h0 : 0 ≤ i) (h : i < n) : rd (mkInts j n) i = j + i := by
  obtain ⟨m, rfl⟩ := Int.eq_ofNat_of_zero_le h0
  have hm : m < n := by omega
  unfold rd mkInts
  simp [List.getD, hm]
theorem markIntS (l : List Int) (j : Int) (hl : l.length ≤ 1048576) (hj : 0 ≤ j) (hj2 : j ≤ 1125899906842624) : Tot (fun k => laws_markIntS.f k l j) (fun r => r = (j + (l.length : Int), mkInts j l.length)) := by
  unfold laws_markIntS.f
  have key := trec (σ := List Int × Int) (fun s k => laws_markIntS.l0 k s.1 (j + s.2) s.2) (fun s => ((l.length : Int) - s.2).toNat)
    (fun s => 0 ≤ s.2 ∧ s.2 ≤ (l.length : Int) ∧ s.1.length = l.length ∧ ∀ i : Int, 0 ≤ i → i < s.2 → rd s.1 i = rd (mkInts j l.length) i) (fun _ r => r = (j + (l.length : Int), mkInts j l.length)) ?_
  · have h := key (l, 0) ⟨Int.le_refl _, by dsimp only; omega, rfl, fun i h0 h1 => by dsimp only at h1; omega⟩
    simpa using h
  · rintro ⟨ys, i⟩ ⟨h0, h1, h2, h3⟩ ih
    dsimp only at h0 h1 h2 h3
    simp only [laws_markIntS.l0, Option.bind_some]
    refine tite (fun c => ?_) (fun c => ?_)
    · refine tpos h0 ?_
      rw [wrap64_id (x := j + i + 1) (by omega) (by omega), wrap64_id (x := i + 1) (by omega) (by omega), show j + i + 1 = j + (i + 1) by omega]
      refine ih (_, i + 1) ⟨by dsimp only; omega, by dsimp only; omega, by simp [h2], ?_⟩ (by dsimp only; omega)
      intro p p0 p1
      dsimp only at p1 ⊢
      by_cases ep : p = i
      · subst ep
        rw [mkInts_at j _ p p0 (by omega)]
        unfold rd; exact ld_set_self _ p (by omega) p0
      · unfold rd
        rw [ld_set_ne _ _ _ h0 p0 (by omega)]
        exact h3 p p0 (by omega)
    · obtain rfl : i = (l.length : Int) := by omega
      refine tsome ?_
      congr 1
      refine ld_ext (z := 0) (by simp [mkInts, h2]) (fun p p0 p1 => ?_)
      exact h3 p p0 (by omega)

theorem toInstrument (l : List Int) (a : Int) (hl : l.length ≤ 1048576) : Tot (fun k => laws_toInstrument.f k l a) (fun r => r = (l, a)) := by
  unfold laws_toInstrument.f
  refine tbind (toIntS l hl) (fun _ e => ?_); subst e
  exact tsome rfl
theorem eqInstrument (l : List Int) (a : Int) (hl : l.length ≤ 1048576) : Tot (fun k => laws_eqInstrument.f k l a l a) (fun r => r = true) := by
  unfold laws_eqInstrument.f
  refine tbind (eqIntS l hl) (fun _ e => ?_); subst e
  exact tpos rfl (tpos rfl (tsome rfl))
theorem szInstrument (l : List Int) (a n : Int) (hn : 0 ≤ n) (hn2 : n ≤ 1048576) (hl : l.length ≤ 9223372036854775807) : laws_szInstrument.f l a n = some (if n < l.length then -1 else n - l.length) := by
  unfold laws_szInstrument.f
  rw [szIntS l n hn hn2 hl]
  simp only [Option.bind_some]
  by_cases h : n < l.length
  · simp only [if_pos h]; rw [if_pos (by omega)]
  · simp only [if_neg h]; rw [if_neg (by omega)]

theorem isPitch_eq (a : Int) : impl_isPitch.f a = some (decide (24 ≤ a ∧ a ≤ 96)) := by
  unfold impl_isPitch.f
  by_cases h : 24 ≤ a <;> simp [h]
def InC (l : List Int) (j : Int) : Prop := 24 ≤ rd l j ∧ rd l j ≤ 96 ∧ (0 < j → rd l (j - 1) < rd l j)
def InGood (l : List Int) (a : Int) : Prop := (∀ j : Int, 0 ≤ j → j < (l.length : Int) → InC l j) ∧ (1 ≤ (l.length : Int) ∧ (l.length : Int) ≤ 20 ∧ 1 ≤ a ∧ a ≤ 20)
theorem l1Rising_tot (l : List Int) (hl : l.length ≤ 1048576) : Tot (fun k => spec_l1Rising.f k l 24 96) (fun b => (b = true) ↔ ((∀ j : Int, 0 ≤ j → j < (l.length : Int) → InC l j) ∧ True)) := by
  unfold spec_l1Rising.f
  refine trec (σ := Int) (fun i k => spec_l1Rising.l0 k l 24 96 l (l.length : Int) i) (fun i => ((l.length : Int) - i).toNat) (fun i => 0 ≤ i ∧ i ≤ (l.length : Int))
    (fun i b => (b = true) ↔ ((∀ j : Int, i ≤ j → j < (l.length : Int) → InC l j) ∧ True)) ?_ 0 ⟨Int.le_refl _, by omega⟩
  rintro i ⟨h0, h1⟩ ih
  simp only [spec_l1Rising.l0, l1In_eq, Option.bind_some, decide_eq_true_eq]
  simp only [show wrap64 (i + 1) = i + 1 from wrap64_id (by omega) (by omega), show wrap64 (i - 1) = i - 1 from wrap64_id (by omega) (by omega)]
  repeat' (refine tite (fun _ => ?_) (fun _ => ?_))
  all_goals first
    | (exfalso; omega)
    | exact tsome (all_no (by omega) (by unfold InC; omega))
    | exact tmono (ih (i + 1) ⟨by omega, by omega⟩ (by (try dsimp only); omega)) (fun b hb => all_go (by omega) (by unfold InC; omega) hb)
    | exact tsome (all_end (by omega) (by simp))
theorem inGood_tot (l : List Int) (a : Int) (hl : l.length ≤ 1048576) : Tot (fun k => spec_inGood.f k l a) (fun b => (b = true) ↔ InGood l a) := by
  unfold spec_inGood.f
  simp only [l1In_eq, Option.bind_some, decide_eq_true_eq]
  refine tite (fun c => ?_) (fun c => tsome ⟨(fun h => by simp at h), (fun h => by have := h.2; omega)⟩)
  refine tbind (l1Rising_tot l hl) (fun b hb => ?_)
  refine tite (fun c2 => ?_) (fun c2 => tsome ⟨(fun h => by simp at h), (fun h => absurd (hb.2 ⟨h.1, trivial⟩) c2)⟩)
  refine tsome ?_
  have := (hb.1 c2).1
  unfold InGood
  simp only [decide_eq_true_eq]
  exact ⟨fun h => ⟨this, by omega⟩, fun h => by omega⟩
theorem isInstrument_tot (l : List Int) (a : Int) (hl : l.length ≤ 1048576) : Tot (fun k => impl_IsInstrument.f k l a) (fun b => (b = true) ↔ InGood l a) := by
  have key : 1 ≤ (l.length : Int) → (l.length : Int) ≤ 20 → 1 ≤ a → a ≤ 20 → Tot (fun k => impl_IsInstrument.l0 k l (l.length : Int) 0 l a) (fun b => (b = true) ↔ InGood l a) := by
    intro g1 g2 g3 g4
    refine tmono (trec (σ := Int) (fun i k => impl_IsInstrument.l0 k l (l.length : Int) i l a) (fun i => ((l.length : Int) - i).toNat) (fun i => 0 ≤ i ∧ i ≤ (l.length : Int))
      (fun i b => (b = true) ↔ ((∀ j : Int, i ≤ j → j < (l.length : Int) → InC l j) ∧ True)) ?_ 0 ⟨Int.le_refl _, by omega⟩) (fun b hb => ?_)
    · rintro i ⟨h0, h1⟩ ih
      simp only [impl_IsInstrument.l0, isPitch_eq, Option.bind_some, decide_eq_true_eq]
      simp only [show wrap64 (i + 1) = i + 1 from wrap64_id (by omega) (by omega), show wrap64 (i - 1) = i - 1 from wrap64_id (by omega) (by omega)]
      repeat' (refine tite (fun _ => ?_) (fun _ => ?_))
      all_goals first
        | (exfalso; omega)
        | exact tsome (all_no (by omega) (by unfold InC; omega))
        | exact tmono (ih (i + 1) ⟨by omega, by omega⟩ (by (try dsimp only); omega)) (fun b hb => all_go (by omega) (by unfold InC; omega) hb)
        | exact tsome (all_end (by omega) (by simp))
    · rw [hb]; unfold InGood
      exact ⟨fun h => ⟨h.1, g1, g2, g3, g4⟩, fun h => ⟨h.1, trivial⟩⟩
  have no : ¬ InGood l a → Tot (fun k => impl_IsInstrument.j0 k true l a) (fun b => (b = true) ↔ InGood l a) := by
    intro hn
    refine tstep ?_
    simp only [impl_IsInstrument.j0, if_true]
    exact tsome ⟨(fun h => by simp at h), (fun h => absurd h hn)⟩
  unfold impl_IsInstrument.f
  refine tite (fun c => no (fun h => by have := h.2; omega)) (fun c1 => ?_)
  refine tite (fun c => no (fun h => by have := h.2; omega)) (fun c2 => ?_)
  refine tite (fun c => no (fun h => by have := h.2; omega)) (fun c3 => ?_)
  by_cases h : a > 20
  · rw [decide_eq_true h]
    exact no (fun h => by have := h.2; omega)
  · rw [decide_eq_false h]
    refine tstep ?_
    simp only [impl_IsInstrument.j0]
    exact tneg (by simp) (key (by omega) (by omega) (by omega) (by omega))

theorem ntPitch_eq (a : Int) : spec_ntPitch.f a = some (decide (24 ≤ a ∧ a ≤ 96)) := by
  unfold spec_ntPitch.f
  simp only [l1In_eq, Option.bind_some]

def Idx (l : List Int) (x i r : Int) : Prop := (r = -1 ∧ ∀ j : Int, i ≤ j → j < (l.length : Int) → rd l j ≠ x) ∨ (i ≤ r ∧ r < (l.length : Int) ∧ rd l r = x ∧ ∀ j : Int, i ≤ j → j < r → rd l j ≠ x)
theorem Idx.go {l : List Int} {x i r : Int} (hx : rd l i ≠ x) (h : Idx l x (i + 1) r) : Idx l x i r := by
  rcases h with ⟨e, h⟩ | ⟨a, b, c, h⟩
  · refine .inl ⟨e, fun j j0 j1 => ?_⟩
    by_cases e : j = i
    · rw [e]; exact hx
    · exact h j (by omega) j1
  · refine .inr ⟨by omega, b, c, fun j j0 j1 => ?_⟩
    by_cases e : j = i
    · rw [e]; exact hx
    · exact h j (by omega) j1
theorem Idx.det {l : List Int} {x r r' : Int} (h : Idx l x 0 r) (h' : Idx l x 0 r') : r = r' := by
  rcases h with ⟨e, h⟩ | ⟨a, b, c, h⟩ <;> rcases h' with ⟨e', h'⟩ | ⟨a', b', c', h'⟩
  · omega
  · exact absurd c' (h r' a' b')
  · exact absurd c (h' r a b)
  · rcases Int.lt_trichotomy r r' with g | g | g
    · exact absurd c (h' r a g)
    · exact g
    · exact absurd c' (h r' a' g)
theorem inTrack_tot (l : List Int) (a x : Int) (hl : l.length ≤ 1048576) : Tot (fun k => spec_inTrack.f k l a x) (fun r => Idx l x 0 r) := by
  unfold spec_inTrack.f
  refine trec (σ := Int) (fun i k => spec_inTrack.l0 k x l (l.length : Int) i) (fun i => ((l.length : Int) - i).toNat) (fun i => 0 ≤ i ∧ i ≤ (l.length : Int)) (fun i r => Idx l x i r) ?_ 0 ⟨Int.le_refl _, by omega⟩
  rintro i ⟨h0, h1⟩ ih
  simp only [spec_inTrack.l0]
  refine tite (fun c => ?_) (fun c => tsome (.inl ⟨rfl, fun j j0 j1 => by omega⟩))
  refine tpos h0 (tpos c ?_)
  refine tite (fun c2 => tsome (.inr ⟨Int.le_refl _, c, c2, fun j j0 j1 => by omega⟩)) (fun c2 => ?_)
  rw [wrap64_id (by omega) (by omega)]
  exact tmono (ih (i + 1) ⟨by omega, by omega⟩ (by (try dsimp only); omega)) (fun r hr => hr.go c2)

theorem slicesIndex_tot (l : List Int) (x : Int) (hl : l.length ≤ 1048576) : Tot (fun k => slices_Index_int_int.f k l x) (fun r => Idx l x 0 r) := by
  unfold slices_Index_int_int.f
  refine trec (σ := Int) (fun i k => slices_Index_int_int.l0 k l x (l.length : Int) i) (fun i => ((l.length : Int) - i).toNat) (fun i => 0 ≤ i ∧ i ≤ (l.length : Int)) (fun i r => Idx l x i r) ?_ 0 ⟨Int.le_refl _, by omega⟩
  rintro i ⟨h0, h1⟩ ih
  simp only [slices_Index_int_int.l0]
  refine tite (fun c => ?_) (fun c => tsome (.inl ⟨rfl, fun j j0 j1 => by omega⟩))
  refine tpos h0 (tpos c ?_)
  refine tite (fun c2 => tsome (.inr ⟨Int.le_refl _, c, c2.symm, fun j j0 j1 => by omega⟩)) (fun c2 => ?_)
  rw [wrap64_id (by omega) (by omega)]
  exact tmono (ih (i + 1) ⟨by omega, by omega⟩ (by (try dsimp only); omega)) (fun r hr => hr.go (fun e => c2 e.symm))

def lastAt (l : List S92) (i : Int) : Nat → Int
  | 0 => -1
  | m + 1 => if (rd_T92 l m).f0 = (rd_T92 l i).f0 then m else lastAt l i m
theorem lastAt_range (l : List S92) (i : Int) (m : Nat) : -1 ≤ lastAt l i m ∧ lastAt l i m < m := by
  induction m with
  | zero => unfold lastAt; omega
  | succ m ih => unfold lastAt; split <;> omega
theorem lastAt_hit (l : List S92) (i : Int) (m : Nat) (h : 0 ≤ lastAt l i m) : (rd_T92 l (lastAt l i m)).f0 = (rd_T92 l i).f0 := by
  induction m with
  | zero => unfold lastAt at h; omega
  | succ m ih =>
    unfold lastAt at h ⊢
    split
    · rename_i c; exact c
    · rename_i c; rw [if_neg c] at h; exact ih h
theorem inLast_tot (l : List S92) (i : Int) (hl : l.length ≤ 1048576) (h0 : 0 ≤ i) (h1 : i < (l.length : Int)) : Tot (fun k => spec_inLast.f k l i) (fun r => r = lastAt l i i.toNat) := by
  unfold spec_inLast.f
  rw [wrap64_id (x := i - 1) (by omega) (by omega)]
  have key := trec (σ := Nat) (fun m k => spec_inLast.l0 k l i ((m : Int) - 1)) (fun m => m) (fun m => (m : Int) ≤ i) (fun m r => r = lastAt l i m) ?_ i.toNat (by omega)
  · rw [show ((i.toNat : Nat) : Int) - 1 = i - 1 by omega] at key
    exact key
  · intro m hm ih
    simp only [spec_inLast.l0, wrap64_id (x := (m : Int) - 1 - 1) (by omega) (by omega)]
    refine tite (fun c => ?_) (fun c => tsome (by rw [show m = 0 by omega]; rfl))
    refine tpos c (tpos (by omega) (tpos h0 (tpos h1 ?_)))
    obtain ⟨q, rfl⟩ : ∃ q, m = q + 1 := ⟨m - 1, by omega⟩
    rw [show ((q + 1 : Nat) : Int) - 1 = (q : Int) by omega]
    refine tite (fun c2 => tsome (by unfold lastAt; rw [if_pos c2])) (fun c2 => ?_)
    exact tmono (ih q (by omega) (by omega)) (fun r hr => by rw [hr]; conv => rhs; unfold lastAt; rw [if_neg c2])

theorem Idx.pos {l : List Int} {x r : Int} (h : Idx l x 0 r) : 0 ≤ r ↔ x ∈ l := by
  constructor
  · intro h0
    rcases h with ⟨e, _⟩ | ⟨a, b, c, _⟩
    · omega
    · rw [← c]; exact ld_mem r b a
  · intro hx
    rcases h with ⟨e, h⟩ | ⟨a, b, c, _⟩
    · obtain ⟨i, hi, e2⟩ := List.getElem_of_mem hx
      have := h (i : Int) (by omega) (by omega)
      unfold rd at this
      simp [List.getD, hi, e2] at this
    · omega
theorem contains_tot (l : List Int) (x : Int) (hl : l.length ≤ 1048576) : Tot (fun k => slices_Contains_int_int.f k l x) (fun b => (b = true) ↔ x ∈ l) := by
  unfold slices_Contains_int_int.f
  exact tbind (slicesIndex_tot l x hl) (fun r hr => tsome (by rw [decide_eq_true_eq]; exact hr.pos))

theorem markInstrument (l : List Int) (a j : Int) (hl : l.length ≤ 1048576) (hj : 0 ≤ j) (hj2 : j ≤ 1125899906842624) : Tot (fun k => laws_markInstrument.f k l a j) (fun r => r = (j + (l.length : Int), mkInts j l.length)) := by
  unfold laws_markInstrument.f
  refine tbind (markIntS l j hl hj hj2) (fun _ e => ?_); subst e
  exact tsome rfl

def inpl {α : Type} (f : α → α) (l : List α) (i : Nat) : List α := (l.take i).map f ++ l.drop i
theorem inpl_len {α : Type} (f : α → α) (l : List α) (i : Nat) (h : i ≤ l.length) : (inpl f l i).length = l.length := by
  unfold inpl; simp; omega
theorem inpl_zero {α : Type} (f : α → α) (l : List α) : inpl f l 0 = l := by simp [inpl]
theorem inpl_end {α : Type} (f : α → α) (l : List α) : inpl f l l.length = l.map f := by simp [inpl]
theorem inpl_at {α : Type} (z : α) (f : α → α) (l : List α) (i : Nat) (h : i < l.length) : (inpl f l i).getD i z = l.getD i z := by
  unfold inpl
  have h1 : ((l.take i).map f).length = i := by simp; omega
  rw [List.getD, List.getElem?_append_right (by omega), h1, Nat.sub_self]
  simp [List.getD, h]
theorem inpl_set {α : Type} (z : α) (f : α → α) (l : List α) (i : Nat) (h : i < l.length) : (inpl f l i).set i (f (l.getD i z)) = inpl f l (i + 1) := by
  unfold inpl
  have h1 : ((l.take i).map f).length = i := by simp; omega
  rw [List.set_append_right _ _ (by omega), h1, Nat.sub_self, List.drop_eq_getElem_cons h, List.set_cons_zero, List.take_succ_eq_append_getElem h, List.map_append, List.append_assoc]
  simp [List.getD, h]
theorem take_up {α β : Type} (z : α) (f : α → β) (l : List α) (i : Nat) (h : i < l.length) : (l.take (i + 1)).map f = (l.take i).map f ++ [f (l.getD i z)] := by
  rw [List.take_succ_eq_append_getElem h, List.map_append]
  simp [List.getD, h]

theorem Idx.neg {l : List Int} {x r : Int} (h : Idx l x 0 r) : r < 0 ↔ ¬ x ∈ l := by
  have h1 : 0 ≤ r ↔ x ∈ l := by
    constructor
    · intro h0
      rcases h with ⟨e, _⟩ | ⟨a, b, c, _⟩
      · omega
      · rw [← c]; exact ld_mem r b a
    · intro hx
      rcases h with ⟨e, h⟩ | ⟨a, b, c, _⟩
      · obtain ⟨i, hi, e2⟩ := List.getElem_of_mem hx
        have := h (i : Int) (by omega) (by omega)
        unfold rd at this
        simp [List.getD, hi, e2] at this
      · omega
  rw [← h1]
  omega

theorem inAsked_tot (p : List Int) (a : Int) (l : List S92) (hp : p.length ≤ 1048576) (hl : l.length ≤ 1048576) : Tot (fun k => spec_inAsked.f k p a l) (fun b => (b = true) ↔ (InGood p a ∧ ntGood l)) := by
  unfold spec_inAsked.f
  refine tbind (inGood_tot p a hp) (fun x hx => tite (fun c => ?_) (fun c => tsome ⟨(fun h => by simp at h), (fun h => absurd (hx.2 h.1) c)⟩))
  exact tbind (ntGood_tot l hl) (fun y hy => tsome ⟨fun h => ⟨hx.1 c, hy.1 h⟩, fun h => hy.2 h.2⟩)

theorem tlet {α β : Type} {v : α} {g : Nat → α → Option β} {Q : β → Prop} (h : Tot (fun k => g k v) Q) : Tot (fun k => (some v).bind fun y => g k y) Q := h
theorem take_drop_erase {α : Type} (l : List α) (m : Nat) : l.take m ++ l.drop (m + 1) = l.eraseIdx m := (List.eraseIdx_eq_take_drop_succ l m).symm
theorem wrapN1 (m : Nat) (h : m ≤ 1048576) : wrap64 ((m : Int) + 1) = ((m + 1 : Nat) : Int) := by rw [wrap64_id (by omega) (by omega)]; rfl
theorem erase_len {α : Type} (l : List α) (m : Nat) (h : l.length ≤ 1048576) : (l.eraseIdx m).length ≤ 1048576 := Nat.le_trans (List.length_eraseIdx_le l m) h

theorem rd_snoc_lt (l : List S92) (x : S92) (k : Nat) (h : k < l.length) : rd_T92 (l ++ [x]) (k : Int) = rd_T92 l (k : Int) := by
  unfold rd_T92
  rw [List.getD_eq_getElem?_getD, List.getD_eq_getElem?_getD, List.getElem?_append_left (by simpa using h)]
theorem rd_snoc_at (l : List S92) (x : S92) : rd_T92 (l ++ [x]) ((l.length : Nat) : Int) = x := by
  unfold rd_T92
  rw [List.getD_eq_getElem?_getD, Int.toNat_natCast, List.getElem?_append_right (Nat.le_refl _)]
  simp
theorem lastAt_congr (l l2 : List S92) (i i2 : Int) (hi : (rd_T92 l i).f0 = (rd_T92 l2 i2).f0) : ∀ m : Nat, (∀ k : Nat, k < m → rd_T92 l (k : Int) = rd_T92 l2 (k : Int)) → lastAt l i m = lastAt l2 i2 m
  | 0, _ => rfl
  | m + 1, h => by
    unfold lastAt
    rw [h m (by omega), hi, lastAt_congr l l2 i i2 hi m (fun k hk => h k (by omega))]
def PRel (out : List S92) (m : Int → Option Int) : Prop := ∀ x : S92, (lastAt (out ++ [x]) (out.length : Int) out.length < 0 → m x.f0 = none) ∧ (0 ≤ lastAt (out ++ [x]) (out.length : Int) out.length → m x.f0 = some (rd_T92 (out ++ [x]) (lastAt (out ++ [x]) (out.length : Int) out.length)).f1)
theorem pRel_nil : PRel [] (fun _ => none) := fun x => ⟨fun _ => rfl, fun h => absurd (show (0 : Int) ≤ -1 from h) (by omega)⟩
theorem pRel_put (out : List S92) (m : Int → Option Int) (h : PRel out m) (y : S92) : PRel (out ++ [y]) (putM_ m y.f0 y.f1) := by
  intro x
  have hlen : (out ++ [y]).length = out.length + 1 := by simp
  have hat : rd_T92 (out ++ [y] ++ [x]) ((out.length : Nat) : Int) = y := by rw [rd_snoc_lt _ _ _ (by omega), rd_snoc_at]
  have hx : rd_T92 (out ++ [y] ++ [x]) (((out ++ [y]).length : Nat) : Int) = x := rd_snoc_at _ _
  have hx2 : rd_T92 (out ++ [x]) ((out.length : Nat) : Int) = x := rd_snoc_at _ _
  have e : lastAt (out ++ [y] ++ [x]) ((out ++ [y]).length : Int) (out ++ [y]).length = if y.f0 = x.f0 then (out.length : Int) else lastAt (out ++ [x]) (out.length : Int) out.length := by
    conv => lhs; rw [show lastAt (out ++ [y] ++ [x]) ((out ++ [y]).length : Int) (out ++ [y]).length = lastAt (out ++ [y] ++ [x]) ((out ++ [y]).length : Int) (out.length + 1) by rw [hlen]]
    conv => lhs; unfold lastAt
    rw [hat, hx, lastAt_congr (out ++ [y] ++ [x]) (out ++ [x]) ((out ++ [y]).length : Int) (out.length : Int) (by rw [hx, hx2]) out.length (fun k hk => by
      rw [rd_snoc_lt _ _ _ (by omega), rd_snoc_lt _ _ _ hk, rd_snoc_lt _ _ _ hk])]
  rw [e]
  unfold putM_
  by_cases c : y.f0 = x.f0
  · rw [if_pos c, if_pos c.symm, hat]
    exact ⟨fun h => by omega, fun _ => rfl⟩
  · rw [if_neg c, if_neg (fun q => c q.symm)]
    refine ⟨(h x).1, fun h0 => ?_⟩
    have hr := lastAt_range (out ++ [x]) (out.length : Int) out.length
    obtain ⟨k, hk⟩ := Int.eq_ofNat_of_zero_le h0
    rw [(h x).2 h0, hk]
    rw [rd_snoc_lt _ _ _ (by omega), rd_snoc_lt _ _ _ (by omega), rd_snoc_lt _ _ _ (by omega)]
theorem idx_mem (p : List Int) (x t : Int) (h : Idx p x 0 t) : t ≥ 0 ↔ x ∈ p := by
  rcases h with ⟨e, h⟩ | ⟨h0, h1, h2, _⟩
  · refine ⟨fun q => by omega, fun q => ?_⟩
    obtain ⟨k, hk, rfl⟩ := List.getElem_of_mem q
    exact absurd (by unfold rd; rw [List.getD_eq_getElem?_getD]; simp [hk]) (h (k : Int) (by omega) (by omega))
  · refine ⟨fun _ => ?_, fun _ => h0⟩
    obtain ⟨k, rfl⟩ := Int.eq_ofNat_of_zero_le h0
    rw [← h2]
    unfold rd
    rw [List.getD_eq_getElem?_getD]
    have : k < p.length := by omega
    simp [this]
theorem kept_bound (out : List S92) (x : S92) (k : Int) (h0 : 0 ≤ k) (h1 : k < (out.length : Int)) (hs : ∀ e ∈ out, 0 ≤ e.f1 ∧ e.f1 ≤ 9999) : 0 ≤ (rd_T92 (out ++ [x]) k).f1 ∧ (rd_T92 (out ++ [x]) k).f1 ≤ 9999 := by
  obtain ⟨n, rfl⟩ := Int.eq_ofNat_of_zero_le h0
  have hn : n < out.length := by omega
  rw [rd_snoc_lt _ _ _ hn]
  refine hs _ ?_
  unfold rd_T92
  rw [List.getD_eq_getElem?_getD]
  simp [hn]
theorem sub_w (u v : Int) (h : 0 ≤ u ∧ u ≤ 9999) (h2 : 0 ≤ v ∧ v ≤ 9999) : wrap64 (u - v) = u - v := wrap64_id (by omega) (by omega)
theorem len_snoc {α : Type} (l : List α) (x : α) : (l ++ [x]).length = l.length + 1 := by simp
/-- The start of the last kept note of x's pitch: whether x is kept. -/
def Keep (p : List Int) (a : Int) (out : List S92) (x : S92) : Prop := x.f0 ∈ p ∧ (0 ≤ lastAt (out ++ [x]) (out.length : Int) out.length → a ≤ x.f1 - (rd_T92 (out ++ [x]) (lastAt (out ++ [x]) (out.length : Int) out.length)).f1)
theorem spec_part_step (p : List Int) (a : Int) (l : List S92) (i : Nat) (out : List S92) (Q : List S92 → Prop) (hp : p.length ≤ 1048576) (hi : i < l.length) (hl : l.length ≤ 30) (ho : out.length ≤ i)
    (hx : 0 ≤ (rd_T92 l (i : Int)).f1 ∧ (rd_T92 l (i : Int)).f1 ≤ 9999) (hs : ∀ e ∈ out, 0 ≤ e.f1 ∧ e.f1 ≤ 9999)
    (yes : Keep p a out (rd_T92 l (i : Int)) → Tot (fun k => spec_inPart.l0 k (out ++ [rd_T92 l (i : Int)]) l (l.length : Int) ((i + 1 : Nat) : Int) p a) Q)
    (no : ¬ Keep p a out (rd_T92 l (i : Int)) → Tot (fun k => spec_inPart.l0 k out l (l.length : Int) ((i + 1 : Nat) : Int) p a) Q) :
    Tot (fun k => spec_inPart.l0 (k + 1) out l (l.length : Int) (i : Int) p a) Q := by
  have hw : wrap64 ((i : Int) + 1) = ((i + 1 : Nat) : Int) := wrapN1 i (by omega)
  have hr := lastAt_range (out ++ [rd_T92 l (i : Int)]) (out.length : Int) out.length
  have kb := fun h0 => kept_bound out (rd_T92 l (i : Int)) (lastAt (out ++ [rd_T92 l (i : Int)]) (out.length : Int) out.length) h0 hr.2 hs
  have hlen := len_snoc out (rd_T92 l (i : Int))
  unfold Keep at yes no
  simp only [spec_inPart.l0, hw]
  generalize rd_T92 l (i : Int) = x at *
  refine tpos (Int.ofNat_lt.2 hi) (tpos (Int.natCast_nonneg i) (tpos (Int.ofNat_lt.2 hi) (tlet (tpos (Nat.lt_of_le_of_lt (show ([] : List S92).length + out.length ≤ 30 by simp; omega) (by decide)) (tlet ?_)))))
  refine tlet (tpos (Nat.lt_of_le_of_lt (show ([] ++ out).length + [x].length ≤ 31 by simp; omega) (by decide)) (tlet ?_))
  rw [List.nil_append]
  refine tbind (inLast_tot (out ++ [x]) (out.length : Int) (by omega) (Int.natCast_nonneg _) (by omega)) (fun _ e => ?_); subst e
  rw [Int.toNat_natCast]
  generalize lastAt (out ++ [x]) (out.length : Int) out.length = q at *
  generalize (rd_T92 (out ++ [x]) q).f1 = v at *
  refine tbind (inTrack_tot p a x.f0 hp) (fun t ht => ?_)
  have hm := idx_mem p x.f0 t ht
  refine tite (fun c => ?_) (fun c => no (fun h => c (hm.2 h.1)))
  have hmem := hm.1 c
  refine tite (fun c1 => yes ⟨hmem, fun h => by omega⟩) (fun c1 => ?_)
  have h0 : 0 ≤ q := by omega
  have hq : q < ((out ++ [x]).length : Int) := by omega
  refine tpos h0 (tpos hq ?_)
  rw [sub_w _ _ hx (kb h0)]
  exact tite (fun c2 => yes ⟨hmem, fun _ => c2⟩) (fun c2 => no (fun h => c2 (h.2 h0)))
theorem impl_part_step (p : List Int) (a : Int) (l : List S92) (i : Nat) (out : List S92) (m : Int → Option Int) (Q : List S92 × Bool → Prop) (hp : p.length ≤ 1048576) (hi : i < l.length) (hl : l.length ≤ 30) (ho : out.length ≤ i)
    (hx : 0 ≤ (rd_T92 l (i : Int)).f1 ∧ (rd_T92 l (i : Int)).f1 ≤ 9999) (hx0 : 0 ≤ (rd_T92 l (i : Int)).f0 ∧ (rd_T92 l (i : Int)).f0 ≤ 9999) (hs : ∀ e ∈ out, 0 ≤ e.f1 ∧ e.f1 ≤ 9999) (hR : PRel out m)
    (yes : Keep p a out (rd_T92 l (i : Int)) → Tot (fun k => impl_PlayablePart.l0 k (out ++ [rd_T92 l (i : Int)]) (putM_ m (rd_T92 l (i : Int)).f0 (rd_T92 l (i : Int)).f1) l (l.length : Int) ((i + 1 : Nat) : Int) p a) Q)
    (no : ¬ Keep p a out (rd_T92 l (i : Int)) → Tot (fun k => impl_PlayablePart.l0 k out m l (l.length : Int) ((i + 1 : Nat) : Int) p a) Q) :
    Tot (fun k => impl_PlayablePart.l0 (k + 1) out m l (l.length : Int) (i : Int) p a) Q := by
  have hw : wrap64 ((i : Int) + 1) = ((i + 1 : Nat) : Int) := wrapN1 i (by omega)
  have hr := lastAt_range (out ++ [rd_T92 l (i : Int)]) (out.length : Int) out.length
  have kb := fun h0 => kept_bound out (rd_T92 l (i : Int)) (lastAt (out ++ [rd_T92 l (i : Int)]) (out.length : Int) out.length) h0 hr.2 hs
  have hm := hR (rd_T92 l (i : Int))
  have hsz : out.length < 5864062014805 := Nat.lt_of_le_of_lt (show out.length ≤ 30 by omega) (by decide)
  unfold Keep at yes no
  simp only [impl_PlayablePart.l0, hw]
  generalize rd_T92 l (i : Int) = x at *
  have inR : inR_ x.f0 ∧ inR_ x.f1 := by unfold inR_; omega
  refine tpos (Int.ofNat_lt.2 hi) (tpos (Int.natCast_nonneg i) (tpos (Int.ofNat_lt.2 hi) (tpos inR ?_)))
  refine tbind (contains_tot p x.f0 hp) (fun b hb => ?_)
  refine tite (fun c => ?_) (fun c => no (fun h => c (hb.2 h.1)))
  have hmem := hb.1 c
  generalize lastAt (out ++ [x]) (out.length : Int) out.length = q at *
  generalize (rd_T92 (out ++ [x]) q).f1 = v at *
  by_cases h0 : 0 ≤ q
  · rw [hm.2 h0]
    refine tpos rfl ?_
    rw [Option.getD_some, sub_w _ _ hx (kb h0)]
    exact tite (fun c2 => no (fun h => by have := h.2 h0; omega)) (fun c2 => tpos hsz (yes ⟨hmem, fun _ => by omega⟩))
  · rw [hm.1 (by omega)]
    exact tneg (by simp) (tpos hsz (yes ⟨hmem, fun h => absurd h h0⟩))
theorem part_loop (p : List Int) (a : Int) (l : List S92) (hp : p.length ≤ 1048576) (hg : ntGood l) : ∀ (d i : Nat) (out : List S92) (m : Int → Option Int), i + d = l.length → PRel out m → out.length ≤ i → (∀ e ∈ out, 0 ≤ e.f1 ∧ e.f1 ≤ 9999) →
    ∃ r, Tot (fun k => spec_inPart.l0 k out l (l.length : Int) (i : Int) p a) (fun y => y = r) ∧ Tot (fun k => impl_PlayablePart.l0 k out m l (l.length : Int) (i : Int) p a) (fun y => y = (r, true)) ∧ r.length ≤ 1048576
  | 0, i, out, m, hi, _, ho, _ => by
    have hn := hg.2
    refine ⟨out, tstep ?_, tstep ?_, by omega⟩
    · simp only [spec_inPart.l0]; exact tneg (by omega) (tsome rfl)
    · simp only [impl_PlayablePart.l0]; exact tneg (by omega) (tsome rfl)
  | d + 1, i, out, m, hi, hR, ho, hs => by
    have hn := hg.2
    have o := (hg.1 (i : Int) (by omega) (by omega)).1
    unfold OkNote at o
    have o1 : 0 ≤ (rd_T92 l (i : Int)).f1 ∧ (rd_T92 l (i : Int)).f1 ≤ 9999 := by omega
    have o0 : 0 ≤ (rd_T92 l (i : Int)).f0 ∧ (rd_T92 l (i : Int)).f0 ≤ 9999 := by omega
    by_cases hk : Keep p a out (rd_T92 l (i : Int))
    · obtain ⟨r, h1, h2, h3⟩ := part_loop p a l hp hg d (i + 1) (out ++ [rd_T92 l (i : Int)]) (putM_ m (rd_T92 l (i : Int)).f0 (rd_T92 l (i : Int)).f1) (by omega) (pRel_put out m hR _) (by rw [len_snoc]; omega) (fun e he => by
        rcases List.mem_append.1 he with he | he
        · exact hs e he
        · rw [List.mem_singleton] at he; rw [he]; exact o1)
      exact ⟨r, tstep (spec_part_step p a l i out _ hp (by omega) (by omega) ho o1 hs (fun _ => h1) (fun h => absurd hk h)), tstep (impl_part_step p a l i out m _ hp (by omega) (by omega) ho o1 o0 hs hR (fun _ => h2) (fun h => absurd hk h)), h3⟩
    · obtain ⟨r, h1, h2, h3⟩ := part_loop p a l hp hg d (i + 1) out m (by omega) hR (by omega) hs
      exact ⟨r, tstep (spec_part_step p a l i out _ hp (by omega) (by omega) ho o1 hs (fun h => absurd h hk) (fun _ => h1)), tstep (impl_part_step p a l i out m _ hp (by omega) (by omega) ho o1 o0 hs hR (fun h => absurd h hk) (fun _ => h2)), h3⟩
theorem playable_agree (p : List Int) (a : Int) (l : List S92) (hp : p.length ≤ 1048576) (hl : l.length ≤ 1048576) : ∃ r, Tot (fun k => spec_PlayablePart.f k p a l) (fun y => y = r) ∧ Tot (fun k => impl_PlayablePart.f k p a l) (fun y => y = r) ∧ r.1.length ≤ 1048576 := by
  unfold spec_PlayablePart.f impl_PlayablePart.f
  by_cases h : InGood p a ∧ ntGood l
  · obtain ⟨r, h1, h2, h3⟩ := part_loop p a l hp h.2 l.length 0 [] (fun _ => none) (by omega) pRel_nil (Nat.zero_le _) (fun e he => by cases he)
    refine ⟨(r, true), ?_, ?_, h3⟩
    · refine tbind (inAsked_tot p a l hp hl) (fun b hb => tpos (hb.2 h) ?_)
      unfold spec_inPart.f
      exact tbind h1 (fun y e => tsome (by rw [e]))
    · refine tbind (isInstrument_tot p a hp) (fun b hb => tpos (hb.2 h.1) ?_)
      refine tbind (isScore_tot l hl) (fun b2 hb2 => ?_)
      rw [show b2 = true from hb2.2 h.2]
      refine tstep ?_
      simp only [impl_PlayablePart.j0]
      exact tneg (by decide) h2
  · refine ⟨([], false), ?_, ?_, Nat.zero_le _⟩
    · exact tbind (inAsked_tot p a l hp hl) (fun b hb => tneg (fun c => h (hb.1 c)) (tsome rfl))
    · refine tbind (isInstrument_tot p a hp) (fun b hb => tite (fun c => ?_) (fun c => ?_))
      · refine tbind (isScore_tot l hl) (fun b2 hb2 => ?_)
        have e : b2 = false := by
          cases b2 with
          | false => rfl
          | true => exact absurd ⟨hb.1 c, hb2.1 rfl⟩ h
        rw [e]
        refine tstep ?_
        simp only [impl_PlayablePart.j0]
        exact tpos (by decide) (tsome rfl)
      · refine tstep ?_
        simp only [impl_PlayablePart.j0]
        exact tpos (by trivial) (tsome rfl)


theorem FnExactPlayablePart (l0_0 : List Int) (a0_1 : Int) (l1 : List (S94)) (hm0_0 : l0_0.length ≤ 9223372036854775807) (hw0_0 : ∀ y ∈ l0_0, Glue.wf64 y) (w0_1 : Glue.wf64 a0_1) (hm1 : l1.length ≤ 9223372036854775807) (hw1 : ∀ y ∈ l1, Glue.wf64 y.f0 ∧ Glue.wf64 y.f1 ∧ Glue.wf64 y.f2) : ∃ k, laws_FnExactPlayablePart.f k l0_0 a0_1 l1 = some true := by
  refine rounds ?_
  unfold laws_FnExactPlayablePart.f
  rw [szInstrument l0_0 a0_1 (1048576 : Int) (by omega) (by omega) hm0_0]
  simp only [Option.bind_some]
  by_cases hl0 : (1048576 : Int) < (l0_0.length : Int)
  · simp only [if_pos hl0]; exact tpos (by omega) (tsome rfl)
  simp only [if_neg hl0]
  refine tneg (by omega) ?_
  rw [szNoteS l1 ((1048576 : Int) - (l0_0.length : Int)) (by omega) (by omega) hm1]
  simp only [Option.bind_some]
  by_cases hl1 : ((1048576 : Int) - (l0_0.length : Int)) < (l1.length : Int)
  · simp only [if_pos hl1]; exact tpos (by omega) (tsome rfl)
  simp only [if_neg hl1]
  refine tneg (by omega) ?_
  obtain ⟨r, hS, hI, hR⟩ := playable_agree l0_0 a0_1 (l1.map cvNote) (by omega) (by simp; omega)
  repeat first
    | exact tsome rfl
    | (refine tbind hS (fun _ e => ?_); subst e)
    | (refine tbind hI (fun _ e => ?_); subst e)
    | (refine tbind (toInstrument l0_0 a0_1 (by omega)) (fun _ e => ?_); subst e)
    | (refine tbind (eqInstrument _ _ (by first | omega | (dsimp only; omega) | (simp; omega) | assumption)) (fun _ e => ?_); subst e)
    | (refine tbind (toNoteS l1 (by omega)) (fun _ e => ?_); subst e)
    | (refine tbind (eqNoteS _ (by first | omega | (dsimp only; omega) | (simp; omega) | assumption)) (fun _ e => ?_); subst e)
    | (refine tbind (eqNoteS _ (by first | assumption | omega | (dsimp only; omega) | (simp; omega))) (fun _ e => ?_); subst e)
    | (refine tbind (markNoteS _ 1 (by first | assumption | omega | (dsimp only; omega) | (simp; omega)) (by omega) (by omega)) (fun _ e => ?_); subst e)
    | (refine tbind (heldNoteS 1 _ (by first | omega | (simp; omega)) (by omega) (by omega)) (fun _ e => ?_); subst e)
    | (refine tbind (markInstrument _ _ _ (by first | omega | (simp; omega)) (by first | omega | (dsimp only; omega)) (by first | omega | (dsimp only; omega))) (fun _ e => ?_); subst e)
    | (refine tbind (markNoteS _ _ (by first | omega | (simp; omega)) (by omega) (by omega)) (fun _ e => ?_); subst e)
    | refine tpos rfl ?_
    | refine tneg (by dsimp only; omega) ?_
    | refine tneg (by omega) ?_
    | refine tneg (by simp; done) ?_
    | refine tpos (by dsimp only) ?_
    | (refine tstep ?_; simp only [laws_FnExactPlayablePart.j0])
    | (refine tstep ?_; simp only [laws_FnExactPlayablePart.j1])
    | (refine tstep ?_; simp only [laws_FnExactPlayablePart.j2])
end Go.Proofs.Ytjgpngeifgcidaa.Pure
