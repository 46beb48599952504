/- The plain side of the law FnExactJoinScores: lists and numbers alone. -/
import Derived.Test.YtjgpngeifgcidaaPFnExactJoinScoresx8
import Derived.Test.YtjgpngeifgcidaaGlue
import Derived.Test.YtjgpngeifgcidaaTot
set_option linter.unusedVariables false
set_option linter.unusedSimpArgs false
namespace Go.Proofs.Ytjgpngeifgcidaa.Pure
open Go.RowKit Go.Proofs.Ytjgpngeifgcidaa.PFnExactJoinScores Go.Proofs.YtjgpngeifgcidaaW.PrintWords Go.Proofs.YtjgpngeifgcidaaW.PrintMore Go.Proofs.Ytjgpngeifgcidaa.Tot

theorem l1In_eq (a b c : Int) : spec_l1In.f a b c = some (decide (b ≤ a ∧ a ≤ c)) := by
  unfold spec_l1In.f
  by_cases h : b ≤ a <;> simp [h]

def cvNote (x : S94) : S92 := ⟨x.f0, x.f1, x.f2⟩
theorem toNoteS (l : List S94) (hl : l.length ≤ 1048576) : Tot (fun k => laws_toNoteS.f k l) (fun r => r = l.map cvNote) := by
  unfold laws_toNoteS.f
  refine tpos (by omega) (tpos (by omega) ?_)
  have key := trec (σ := List S92 × Int) (fun s k => laws_toNoteS.l0 k l s.1 s.2) (fun s => ((l.length : Int) - s.2).toNat)
    (fun s => 0 ≤ s.2 ∧ s.2 ≤ (l.length : Int) ∧ s.1.length = l.length ∧ ∀ j : Int, 0 ≤ j → j < s.2 → s.1.getD j.toNat z92 = cvNote (l.getD j.toNat z94)) (fun _ r => r = l.map cvNote) ?_
  · exact key (List.replicate (l.length : Int).toNat z92, 0) ⟨Int.le_refl _, by dsimp only; omega, by simp, fun j h0 h1 => by dsimp only at h1; omega⟩
  · rintro ⟨ys, i⟩ ⟨h0, h1, h2, h3⟩ ih
    dsimp only at h0 h1 h2 h3
    simp only [laws_toNoteS.l0, laws_toNote.f, Option.bind_some]
    refine tite (fun c => ?_) (fun c => ?_)
    · refine tpos h0 (tpos (by omega) ?_)
      rw [wrap64_id (by omega) (by omega)]
      refine ih (_, i + 1) ⟨by dsimp only; omega, by dsimp only; omega, by simp [h2], ?_⟩ (by dsimp only; omega)
      intro j hj0 hj1
      dsimp only at hj1 ⊢
      by_cases e : j = i
      · subst e; rw [ld_set_self _ _ (by omega) hj0]; rfl
      · rw [ld_set_ne _ _ _ h0 hj0 (by omega)]; exact h3 j hj0 (by omega)
    · exact tsome (write_end h2 (fun j a b => h3 j a (by omega)))

theorem eqNoteS (l : List S92) (hl : l.length ≤ 1048576) : Tot (fun k => laws_eqNoteS.f k l l) (fun r => r = true) := by
  unfold laws_eqNoteS.f
  refine tpos rfl ?_
  refine trec (σ := Int) (fun i k => laws_eqNoteS.l0 k l l i) (fun i => ((l.length : Int) - i).toNat) (fun i => 0 ≤ i ∧ i ≤ (l.length : Int)) (fun _ r => r = true) ?_ 0 ⟨Int.le_refl _, by omega⟩
  rintro i ⟨h0, h1⟩ ih
  simp only [laws_eqNoteS.l0, laws_eqNote.f, if_true, Option.bind_some]
  refine tite (fun c => ?_) (fun c => tsome rfl)
  refine tpos h0 (tpos (by omega) ?_)
  rw [wrap64_id (by omega) (by omega)]
  exact ih (i + 1) ⟨by omega, by omega⟩ (by (try dsimp only); omega)

theorem szNoteS (l : List S94) (n : Int) (hn : 0 ≤ n) (hn2 : n ≤ 1048576) (hl : l.length ≤ 9223372036854775807) : laws_szNoteS.f l n = some (if n < l.length then -1 else n - l.length) := by
  unfold laws_szNoteS.f
  simp (disch := omega) only [wrap64_id]
  by_cases h : n < l.length
  · rw [if_pos (by omega), if_pos h]
  · rw [if_neg (by omega), if_neg h]

abbrev OkNote (a b c : Int) : Prop := 24 ≤ a ∧ a ≤ 96 ∧ 0 ≤ b ∧ b ≤ 999 ∧ 1 ≤ c ∧ c ≤ 99
theorem ntNote_eq (a b c : Int) : spec_ntNote.f a b c = some (decide (OkNote a b c)) := by
  unfold spec_ntNote.f spec_ntPitch.f OkNote
  simp only [l1In_eq, Option.bind_some, decide_eq_true_eq]
  split
  · split
    · congr 1; rw [Bool.eq_iff_iff]; simp only [decide_eq_true_eq]; omega
    · congr 1; rw [Bool.eq_iff_iff]; simp only [decide_eq_true_eq]; simp; omega
  · congr 1; rw [Bool.eq_iff_iff]; simp only [decide_eq_true_eq]; simp; omega
theorem implIsNote_eq (a b c : Int) : impl_IsNote.f a b c = some (decide (OkNote a b c)) := by
  unfold impl_IsNote.f OkNote
  by_cases h1 : 24 ≤ a <;> by_cases h2 : a ≤ 96 <;> by_cases h3 : 0 ≤ b <;> by_cases h4 : b ≤ 999 <;> by_cases h5 : 1 ≤ c <;> simp [h1, h2, h3, h4, h5] <;> omega

def ntLess (x y : S92) : Prop := x.f1 < y.f1 ∨ (x.f1 = y.f1 ∧ x.f0 < y.f0)
def ntMeet (x y : S92) : Prop := x.f0 = y.f0 ∧ y.f1 < x.f1 + x.f2
def ntA (l : List S92) (j : Int) : Prop := OkNote (rd_T92 l j).f0 (rd_T92 l j).f1 (rd_T92 l j).f2 ∧ (0 < j → ntLess (rd_T92 l (j - 1)) (rd_T92 l j))
def ntC (l : List S92) (j : Int) : Prop := OkNote (rd_T92 l j).f0 (rd_T92 l j).f1 (rd_T92 l j).f2 ∧ (0 < j → ntLess (rd_T92 l (j - 1)) (rd_T92 l j)) ∧ (∀ p : Int, 0 ≤ p → p < j → ¬ ntMeet (rd_T92 l p) (rd_T92 l j))
theorem nt_take (l : List S92) (i p : Int) (h0 : 0 ≤ p) (h : p < i) : rd_T92 (l.take i.toNat) p = rd_T92 l p := by
  unfold rd_T92
  exact ld_take i.toNat p h0 (by omega)
theorem nt_start (l : List S92) (i : Int) (hp : ∀ j : Int, 0 ≤ j → j < i → ntC l j) (hi : 0 < i → ntLess (rd_T92 l (i - 1)) (rd_T92 l i)) (p : Int) (p0 : 0 ≤ p) (p1 : p < i) : (rd_T92 l p).f1 ≤ (rd_T92 l i).f1 := by
  have key : ∀ (d : Nat) (j : Int), j = p + d → j ≤ i → (rd_T92 l p).f1 ≤ (rd_T92 l j).f1 := by
    intro d
    induction d with
    | zero => intro j e _; rw [show j = p by omega]; exact Int.le_refl _
    | succ d ih =>
      intro j e h
      have h1 := ih (j - 1) (by omega) (by omega)
      have h2 : ntLess (rd_T92 l (j - 1)) (rd_T92 l j) := by
        by_cases e2 : j = i
        · rw [e2]; exact hi (by omega)
        · exact (hp j (by omega) (by omega)).2.1 (by omega)
      unfold ntLess at h2
      omega
  exact key (i - p).toNat i (by omega) (Int.le_refl _)

def ntGood (l : List S92) : Prop := (∀ j : Int, 0 ≤ j → j < (l.length : Int) → ntC l j) ∧ (l.length : Int) ≤ 30
theorem ntBefore_eq (a b c d e f : Int) : spec_ntBefore.f a b c d e f = some (decide (b < e ∨ (b = e ∧ a < d))) := by
  unfold spec_ntBefore.f
  by_cases h1 : b < e <;> by_cases h2 : b = e <;> simp [h1, h2]
theorem noteLess_eq (a b c d e f : Int) : impl_noteLess.f a b c d e f = some (decide (b < e ∨ (b = e ∧ a < d))) := by
  unfold impl_noteLess.f
  by_cases h2 : b = e
  · subst h2; simp
  · simp [h2]
theorem ntMeet_eq (a b c d e f : Int) (h : OkNote a b c) (g : OkNote d e f) : spec_ntMeet.f a b c d e f = some (decide (a = d ∧ b < e + f ∧ e < b + c)) := by
  unfold spec_ntMeet.f
  unfold OkNote at h g
  rw [wrap64_id (x := e + f) (by omega) (by omega), wrap64_id (x := b + c) (by omega) (by omega)]
  by_cases h1 : a = d <;> by_cases h2 : b < e + f <;> simp [h1, h2]
theorem noteEnd_eq (a b c : Int) (h : OkNote a b c) : impl_noteEnd.f a b c = some (b + c) := by
  unfold impl_noteEnd.f
  unfold OkNote at h
  rw [wrap64_id (by omega) (by omega)]

theorem nt_spec_ntGood_loop (l : List S92) (hl : l.length ≤ 1048576) : Tot (fun k => spec_ntGood.l0 k l l (l.length : Int) 0) (fun b => (b = true) ↔ ((∀ j : Int, 0 ≤ j → j < (l.length : Int) → ntC l j) ∧ (l.length : Int) ≤ 30)) := by
  refine trec (σ := Int) (fun i k => spec_ntGood.l0 k l l (l.length : Int) i) (fun i => ((l.length : Int) - i).toNat) (fun i => 0 ≤ i ∧ i ≤ (l.length : Int) ∧ ∀ j : Int, 0 ≤ j → j < i → ntC l j)
    (fun i b => (b = true) ↔ ((∀ j : Int, i ≤ j → j < (l.length : Int) → ntC l j) ∧ (l.length : Int) ≤ 30)) ?_ 0 ⟨Int.le_refl _, by omega, fun j a b => by omega⟩
  rintro i ⟨h0, h1, hp⟩ ih
  have hno : i < (l.length : Int) → ¬ ntC l i → Tot (fun _ => some false) (fun b => (b = true) ↔ ((∀ j : Int, i ≤ j → j < (l.length : Int) → ntC l j) ∧ (l.length : Int) ≤ 30)) := fun a b => tsome (all_no a b)
  have hjT : i < (l.length : Int) → ¬ ntA l i → Tot (fun k => spec_ntGood.j1 k l i l (l.length : Int) i true (rd_T92 l i).f0 (rd_T92 l i).f1 (rd_T92 l i).f2) (fun b => (b = true) ↔ ((∀ j : Int, i ≤ j → j < (l.length : Int) → ntC l j) ∧ (l.length : Int) ≤ 30)) := by
    intro a b
    refine tstep ?_
    simp only [spec_ntGood.j1, if_true]
    exact hno a (fun h => b ⟨h.1, h.2.1⟩)
  have hjF : i < (l.length : Int) → ntA l i → Tot (fun k => spec_ntGood.j1 k l i l (l.length : Int) i false (rd_T92 l i).f0 (rd_T92 l i).f1 (rd_T92 l i).f2) (fun b => (b = true) ↔ ((∀ j : Int, i ≤ j → j < (l.length : Int) → ntC l j) ∧ (l.length : Int) ≤ 30)) := by
    intro a hA
    refine tstep ?_
    simp only [spec_ntGood.j1, Option.bind_some]
    refine tneg (by simp) (tpos h0 (tpos h1 ?_))
    have hlen : ((l.take i.toNat).length : Int) = i := by simp; omega
    rw [hlen]
    refine trec (σ := Int) (fun p k => spec_ntGood.l1 k l l (l.length : Int) i (l.take i.toNat) i p (rd_T92 l i).f0 (rd_T92 l i).f1 (rd_T92 l i).f2) (fun p => (i - p).toNat) (fun p => 0 ≤ p ∧ p ≤ i ∧ ∀ q : Int, 0 ≤ q → q < p → ¬ ntMeet (rd_T92 l q) (rd_T92 l i))
      (fun _ => (fun b => (b = true) ↔ ((∀ j : Int, i ≤ j → j < (l.length : Int) → ntC l j) ∧ (l.length : Int) ≤ 30))) ?_ 0 ⟨Int.le_refl _, h0, fun q a b => by omega⟩
    rintro p ⟨p0, p1, pq⟩ ihp
    simp only [spec_ntGood.l1, hlen, wrap64_id (show -9223372036854775808 ≤ i + 1 by omega) (by omega), wrap64_id (show -9223372036854775808 ≤ p + 1 by omega) (by omega)]
    refine tite (fun c => ?_) (fun c => ?_)
    · refine tpos p0 (tpos c ?_)
      simp only [nt_take l i p p0 c]
      have hs := nt_start l i hp hA.2 p p0 c
      have o1 := (hp p p0 c).1
      have o2 := hA.1
      simp only [ntMeet_eq _ _ _ _ _ _ o2 o1, Option.bind_some, decide_eq_true_eq]
      unfold OkNote at o1 o2
      have go : ¬ ntMeet (rd_T92 l p) (rd_T92 l i) → Tot (fun k => spec_ntGood.l1 k l l (l.length : Int) i (l.take i.toNat) i (p + 1) (rd_T92 l i).f0 (rd_T92 l i).f1 (rd_T92 l i).f2) (fun b => (b = true) ↔ ((∀ j : Int, i ≤ j → j < (l.length : Int) → ntC l j) ∧ (l.length : Int) ≤ 30)) := fun hm =>
        ihp (p + 1) ⟨by omega, by omega, fun q q0 q1 => by
          by_cases e : q = p
          · rw [e]; exact hm
          · exact pq q q0 (by omega)⟩ (by (try dsimp only); omega)
      repeat' (refine tite (fun _ => ?_) (fun _ => ?_))
      all_goals first
        | exact go (by unfold ntMeet; omega)
        | exact hno a (fun h => h.2.2 p p0 c (by unfold ntMeet; omega))
    · have Ci : ntC l i := ⟨hA.1, hA.2, fun q q0 q1 => pq q q0 (by omega)⟩
      exact tmono (ih (i + 1) ⟨by omega, by omega, fun j j0 j1 => by
        by_cases e : j = i
        · rw [e]; exact Ci
        · exact hp j j0 (by omega)⟩ (by (try dsimp only); omega)) (fun b hb => all_go a Ci hb)
  simp only [spec_ntGood.l0, ntNote_eq, ntBefore_eq, Option.bind_some, decide_eq_true_eq]
  simp only [show wrap64 (i - 1) = i - 1 from wrap64_id (by omega) (by omega)]
  by_cases hL : ntLess (rd_T92 l (i - 1)) (rd_T92 l i)
  all_goals
    have hL2 := hL
    unfold ntLess at hL2
    simp only [hL2, decide_true, decide_false, Bool.not_true, Bool.not_false]
    repeat' (refine tite (fun _ => ?_) (fun _ => ?_))
    all_goals first
      | (exfalso; omega)
      | exact hjF (by omega) ⟨by assumption, fun _ => hL⟩
      | exact hjF (by omega) ⟨by assumption, fun h => absurd h (by omega)⟩
      | exact hjT (by omega) (fun h => absurd h.1 (by assumption))
      | exact hjT (by omega) (fun h => absurd (h.2 (by omega)) hL)
      | exact tsome (all_end (by omega) (by simp only [decide_eq_true_eq]))

theorem nt_impl_IsScore_loop (l : List S92) (hl : l.length ≤ 1048576) : Tot (fun k => impl_IsScore.l0 k l l (l.length : Int) 0) (fun b => (b = true) ↔ ((∀ j : Int, 0 ≤ j → j < (l.length : Int) → ntC l j) ∧ True)) := by
  refine trec (σ := Int) (fun i k => impl_IsScore.l0 k l l (l.length : Int) i) (fun i => ((l.length : Int) - i).toNat) (fun i => 0 ≤ i ∧ i ≤ (l.length : Int) ∧ ∀ j : Int, 0 ≤ j → j < i → ntC l j)
    (fun i b => (b = true) ↔ ((∀ j : Int, i ≤ j → j < (l.length : Int) → ntC l j) ∧ True)) ?_ 0 ⟨Int.le_refl _, by omega, fun j a b => by omega⟩
  rintro i ⟨h0, h1, hp⟩ ih
  have hno : i < (l.length : Int) → ¬ ntC l i → Tot (fun _ => some false) (fun b => (b = true) ↔ ((∀ j : Int, i ≤ j → j < (l.length : Int) → ntC l j) ∧ True)) := fun a b => tsome (all_no a b)
  have hjT : i < (l.length : Int) → ¬ ntA l i → Tot (fun k => impl_IsScore.j1 k l i l (l.length : Int) i true (rd_T92 l i).f0 (rd_T92 l i).f1 (rd_T92 l i).f2) (fun b => (b = true) ↔ ((∀ j : Int, i ≤ j → j < (l.length : Int) → ntC l j) ∧ True)) := by
    intro a b
    refine tstep ?_
    simp only [impl_IsScore.j1, if_true]
    exact hno a (fun h => b ⟨h.1, h.2.1⟩)
  have hjF : i < (l.length : Int) → ntA l i → Tot (fun k => impl_IsScore.j1 k l i l (l.length : Int) i false (rd_T92 l i).f0 (rd_T92 l i).f1 (rd_T92 l i).f2) (fun b => (b = true) ↔ ((∀ j : Int, i ≤ j → j < (l.length : Int) → ntC l j) ∧ True)) := by
    intro a hA
    refine tstep ?_
    simp only [impl_IsScore.j1, Option.bind_some]
    refine tneg (by simp) (tpos h0 (tpos h1 ?_))
    have hlen : ((l.take i.toNat).length : Int) = i := by simp; omega
    rw [hlen]
    refine trec (σ := Int) (fun p k => impl_IsScore.l1 k l l (l.length : Int) i (l.take i.toNat) i p (rd_T92 l i).f0 (rd_T92 l i).f1 (rd_T92 l i).f2) (fun p => (i - p).toNat) (fun p => 0 ≤ p ∧ p ≤ i ∧ ∀ q : Int, 0 ≤ q → q < p → ¬ ntMeet (rd_T92 l q) (rd_T92 l i))
      (fun _ => (fun b => (b = true) ↔ ((∀ j : Int, i ≤ j → j < (l.length : Int) → ntC l j) ∧ True))) ?_ 0 ⟨Int.le_refl _, h0, fun q a b => by omega⟩
    rintro p ⟨p0, p1, pq⟩ ihp
    simp only [impl_IsScore.l1, hlen, wrap64_id (show -9223372036854775808 ≤ i + 1 by omega) (by omega), wrap64_id (show -9223372036854775808 ≤ p + 1 by omega) (by omega)]
    refine tite (fun c => ?_) (fun c => ?_)
    · refine tpos p0 (tpos c ?_)
      simp only [nt_take l i p p0 c]
      have hs := nt_start l i hp hA.2 p p0 c
      have o1 := (hp p p0 c).1
      have o2 := hA.1
      simp only [noteEnd_eq _ _ _ o1, Option.bind_some]
      unfold OkNote at o1 o2
      have go : ¬ ntMeet (rd_T92 l p) (rd_T92 l i) → Tot (fun k => impl_IsScore.l1 k l l (l.length : Int) i (l.take i.toNat) i (p + 1) (rd_T92 l i).f0 (rd_T92 l i).f1 (rd_T92 l i).f2) (fun b => (b = true) ↔ ((∀ j : Int, i ≤ j → j < (l.length : Int) → ntC l j) ∧ True)) := fun hm =>
        ihp (p + 1) ⟨by omega, by omega, fun q q0 q1 => by
          by_cases e : q = p
          · rw [e]; exact hm
          · exact pq q q0 (by omega)⟩ (by (try dsimp only); omega)
      repeat' (refine tite (fun _ => ?_) (fun _ => ?_))
      all_goals first
        | exact go (by unfold ntMeet; omega)
        | exact hno a (fun h => h.2.2 p p0 c (by unfold ntMeet; omega))
    · have Ci : ntC l i := ⟨hA.1, hA.2, fun q q0 q1 => pq q q0 (by omega)⟩
      exact tmono (ih (i + 1) ⟨by omega, by omega, fun j j0 j1 => by
        by_cases e : j = i
        · rw [e]; exact Ci
        · exact hp j j0 (by omega)⟩ (by (try dsimp only); omega)) (fun b hb => all_go a Ci hb)
  simp only [impl_IsScore.l0, implIsNote_eq, noteLess_eq, Option.bind_some, decide_eq_true_eq]
  simp only [show wrap64 (i - 1) = i - 1 from wrap64_id (by omega) (by omega)]
  by_cases hL : ntLess (rd_T92 l (i - 1)) (rd_T92 l i)
  all_goals
    have hL2 := hL
    unfold ntLess at hL2
    simp only [hL2, decide_true, decide_false, Bool.not_true, Bool.not_false]
    repeat' (refine tite (fun _ => ?_) (fun _ => ?_))
    all_goals first
      | (exfalso; omega)
      | exact hjF (by omega) ⟨by assumption, fun _ => hL⟩
      | exact hjF (by omega) ⟨by assumption, fun h => absurd h (by omega)⟩
      | exact hjT (by omega) (fun h => absurd h.1 (by assumption))
      | exact hjT (by omega) (fun h => absurd (h.2 (by omega)) hL)
      | exact tsome (all_end (by omega) (by simp))

theorem ntGood_tot (l : List S92) (hl : l.length ≤ 1048576) : Tot (fun k => spec_ntGood.f k l) (fun b => (b = true) ↔ ntGood l) := by
  unfold spec_ntGood.f
  exact nt_spec_ntGood_loop l hl
theorem isScore_tot (l : List S92) (hl : l.length ≤ 1048576) : Tot (fun k => impl_IsScore.f k l) (fun b => (b = true) ↔ ntGood l) := by
  unfold impl_IsScore.f ntGood
  refine tite (fun c => tsome ⟨(fun h => by simp at h), (fun h => by have := h.2; omega)⟩) (fun c => ?_)
  refine tmono (nt_impl_IsScore_loop l hl) (fun b hb => ?_)
  rw [hb]
  exact ⟨fun h => ⟨h.1, by omega⟩, fun h => ⟨h.1, trivial⟩⟩

def mkNote (j : Int) (n : Nat) : List S92 := (List.range n).map fun i : Nat => (⟨j + 3 * (i : Int) + 0, j + 3 * (i : Int) + 1, j + 3 * (i : Int) + 2⟩ : S92)
theorem mkNote_at (j : Int) (n : Nat) (i : Int) (h0 : 0 ≤ i) (h : i < n) : rd_T92 (mkNote j n) i = ⟨j + 3 * i + 0, j + 3 * i + 1, j + 3 * i + 2⟩ := by
  obtain ⟨m, rfl⟩ := Int.eq_ofNat_of_zero_le h0
  have hm : m < n := by omega
  unfold rd_T92 mkNote
  simp [List.getD, hm]
theorem markNoteS (l : List S92) (j : Int) (hl : l.length ≤ 1048576) (hj : 0 ≤ j) (hj2 : j ≤ 1125899906842624) : Tot (fun k => laws_markNoteS.f k l j) (fun r => r = (j + 3 * (l.length : Int), mkNote j l.length)) := by
  unfold laws_markNoteS.f
  have key := trec (σ := List S92 × Int) (fun s k => laws_markNoteS.l0 k s.1 (j + 3 * s.2) s.2) (fun s => ((l.length : Int) - s.2).toNat)
    (fun s => 0 ≤ s.2 ∧ s.2 ≤ (l.length : Int) ∧ s.1.length = l.length ∧ ∀ i : Int, 0 ≤ i → i < s.2 → rd_T92 s.1 i = rd_T92 (mkNote j l.length) i) (fun _ r => r = (j + 3 * (l.length : Int), mkNote j l.length)) ?_
  · have h := key (l, 0) ⟨Int.le_refl _, by dsimp only; omega, rfl, fun i h0 h1 => by dsimp only at h1; omega⟩
    simpa using h
  · rintro ⟨ys, i⟩ ⟨h0, h1, h2, h3⟩ ih
    dsimp only at h0 h1 h2 h3
    simp only [laws_markNoteS.l0, Option.bind_some]
    refine tite (fun c => ?_) (fun c => ?_)
    · refine tpos h0 ?_
      have hi : i.toNat < ys.length := by omega
      have e : ∀ x : S92, rd_T92 (ys.set i.toNat x) i = x := fun x => by
        unfold rd_T92; exact ld_set_self x i (by omega) h0
      simp only [e, List.set_set, wrap64_id (x := j + 3 * i + 1) (by omega) (by omega), wrap64_id (x := j + 3 * i + 1 + 1) (by omega) (by omega), wrap64_id (x := j + 3 * i + 1 + 1 + 1) (by omega) (by omega)]
      rw [show j + 3 * i + 1 + 1 + 1 = j + 3 * (i + 1) by omega, wrap64_id (x := i + 1) (by omega) (by omega)]
      refine ih (_, i + 1) ⟨by dsimp only; omega, by dsimp only; omega, by simp [h2], ?_⟩ (by dsimp only; omega)
      intro p p0 p1
      dsimp only at p1 ⊢
      by_cases ep : p = i
      · subst ep
        rw [e, mkNote_at j _ p p0 (by omega)]
        congr 1 <;> omega
      · unfold rd_T92
        rw [ld_set_ne _ _ _ h0 p0 (by omega)]
        exact h3 p p0 (by omega)
    · obtain rfl : i = (l.length : Int) := by omega
      refine tsome ?_
      congr 1
      refine ld_ext (z := z92) (by simp [mkNote, h2]) (fun p p0 p1 => ?_)
      exact h3 p p0 (by omega)

theorem heldNoteS (j : Int) (n : Nat) (hn : n ≤ 1048576) (hj : 0 ≤ j) (hj2 : j ≤ 1125899906842624) : Tot (fun k => laws_heldNoteS.f k (mkNote j n) j) (fun r => r = j + 3 * (n : Int)) := by
  unfold laws_heldNoteS.f
  have hlen : ((mkNote j n).length : Int) = n := by simp [mkNote]
  have key := trec (σ := Int) (fun i k => laws_heldNoteS.l0 k (mkNote j n) (j + 3 * i) i) (fun i => ((n : Int) - i).toNat) (fun i => 0 ≤ i ∧ i ≤ (n : Int)) (fun _ r => r = j + 3 * (n : Int)) ?_ 0 ⟨Int.le_refl _, by omega⟩
  · simpa using key
  · rintro i ⟨h0, h1⟩ ih
    simp only [laws_heldNoteS.l0, hlen]
    refine tite (fun c => ?_) (fun c => ?_)
    · refine tpos h0 ?_
      simp only [mkNote_at j n i h0 c]
      simp only [wrap64_id (x := j + 3 * i + 1) (by omega) (by omega), wrap64_id (x := j + 3 * i + 1 + 1) (by omega) (by omega), wrap64_id (x := j + 3 * i + 1 + 1 + 1) (by omega) (by omega)]
      refine tpos (by first | trivial | omega) ?_
      refine tpos (by first | trivial | omega) ?_
      refine tpos (by first | trivial | omega) ?_
      rw [show j + 3 * i + 1 + 1 + 1 = j + 3 * (i + 1) by omega, wrap64_id (x := i + 1) (by omega) (by omega)]
      exact ih (i + 1) ⟨by omega, by omega⟩ (by (try dsimp only); omega)
    · exact tsome (by omega)

theorem rd_eq (xs : List Int) (i : Int) : rd xs i = xs.getD i.toNat 0 := rfl

theorem ntPitch_eq (a : Int) : spec_ntPitch.f a = some (decide (24 ≤ a ∧ a ≤ 96)) := by
  unfold spec_ntPitch.f
  simp only [l1In_eq, Option.bind_some]

def inpl {α : Type} (f : α → α) (l : List α) (i : Nat) : List α := (l.take i).map f ++ l.drop i
theorem inpl_len {α : Type} (f : α → α) (l : List α) (i : Nat) (h : i ≤ l.length) : (inpl f l i).length = l.length := by
  unfold inpl; simp; omega
theorem inpl_zero {α : Type} (f : α → α) (l : List α) : inpl f l 0 = l := by simp [inpl]
theorem inpl_end {α : Type} (f : α → α) (l : List α) : inpl f l l.length = l.map f := by simp [inpl]
theorem inpl_at {α : Type} (z : α) (f : α → α) (l : List α) (i : Nat) (h : i < l.length) : (inpl f l i).getD i z = l.getD i z := by
  unfold inpl
  have h1 : ((l.take i).map f).length = i := by simp; omega
  rw [List.getD, List.getElem?_append_right (by omega), h1, Nat.sub_self]
  simp [List.getD, h]
theorem inpl_set {α : Type} (z : α) (f : α → α) (l : List α) (i : Nat) (h : i < l.length) : (inpl f l i).set i (f (l.getD i z)) = inpl f l (i + 1) := by
  unfold inpl
  have h1 : ((l.take i).map f).length = i := by simp; omega
  rw [List.set_append_right _ _ (by omega), h1, Nat.sub_self, List.drop_eq_getElem_cons h, List.set_cons_zero, List.take_succ_eq_append_getElem h, List.map_append, List.append_assoc]
  simp [List.getD, h]
theorem take_up {α β : Type} (z : α) (f : α → β) (l : List α) (i : Nat) (h : i < l.length) : (l.take (i + 1)).map f = (l.take i).map f ++ [f (l.getD i z)] := by
  rw [List.take_succ_eq_append_getElem h, List.map_append]
  simp [List.getD, h]

theorem cloneNote (l : List S92) (hl : l.length ≤ 1048576) : clone_Note.f l = some l := by
  unfold clone_Note.f
  simp only [Option.bind_some]
  rw [if_pos (by simp; omega)]
  rfl

theorem scoreOf_tot (l : List S92) (hl : l.length ≤ 1048576) : Tot (fun k => impl_scoreOf.f k l) (fun r => (ntGood l ∧ r = (l, true)) ∨ (¬ ntGood l ∧ r = ([], false))) := by
  unfold impl_scoreOf.f
  exact tbind (isScore_tot l hl) (fun b hb => tite (fun c => tsome (.inl ⟨hb.1 c, rfl⟩)) (fun c => tsome (.inr ⟨fun h => c (hb.2 h), rfl⟩)))

theorem tlet {α β : Type} {v : α} {g : Nat → α → Option β} {Q : β → Prop} (h : Tot (fun k => g k v) Q) : Tot (fun k => (some v).bind fun y => g k y) Q := h
theorem take_drop_erase {α : Type} (l : List α) (m : Nat) : l.take m ++ l.drop (m + 1) = l.eraseIdx m := (List.eraseIdx_eq_take_drop_succ l m).symm
theorem wrapN1 (m : Nat) (h : m ≤ 1048576) : wrap64 ((m : Int) + 1) = ((m + 1 : Nat) : Int) := by rw [wrap64_id (by omega) (by omega)]; rfl
theorem erase_len {α : Type} (l : List α) (m : Nat) (h : l.length ≤ 1048576) : (l.eraseIdx m).length ≤ 1048576 := Nat.le_trans (List.length_eraseIdx_le l m) h

theorem lenS {α : Type} (a b : List α) : (a ++ b).length = a.length + b.length := List.length_append
theorem small30 {n : Nat} (h : n ≤ 2000) : n < 5864062014805 := Nat.lt_of_le_of_lt h (by decide)
theorem nsLen (l : List S92) : (Srt.nsort impl_sortedNotes_lt l).length = l.length := Srt.nsort_length l
theorem insLen (x : S92) (r : List S92) : (Srt.insR impl_sortedNotes_lt x r).length = r.length + 1 := (Srt.insR_perm x r).length_eq
/-- The search from behind, and the insertion. -/
theorem nts_in (x : S92) (l : List S92) (i : Nat) (hi : i ≤ 1000) (Q : List S92 × Bool → Prop) : ∀ (r s : List S92), r.length + s.length ≤ 1000 →
    Tot (fun k => spec_ntSorted.l0 k ((Srt.insR impl_sortedNotes_lt x r).reverse ++ s) l (l.length : Int) ((i + 1 : Nat) : Int)) Q →
    Tot (fun k => spec_ntSorted.l1 k (r.reverse ++ s) (r.length : Int) l (l.length : Int) (i : Int) x.f0 x.f1 x.f2) Q
  | [], s, hs, h => by
    have hw : wrap64 ((i : Int) + 1) = ((i + 1 : Nat) : Int) := wrapN1 i (by omega)
    refine tstep ?_
    simp only [spec_ntSorted.l1, hw]
    refine tneg (by simp) (tlet (tpos (by simp) (tpos (by simp) (tlet (tpos (small30 (by simp)) (tlet (tlet (tpos (small30 (by simp)) (tlet (tlet (tpos (small30 (by simp; simp at hs; omega)) ?_)))))))))))
    have e : (([] ++ (([] : List S92).reverse ++ s).take (Int.toNat (([] : List S92).length : Int))) ++ [⟨x.f0, x.f1, x.f2⟩]) ++ (([] : List S92).reverse ++ s).drop (Int.toNat (([] : List S92).length : Int)) = (Srt.insR impl_sortedNotes_lt x []).reverse ++ s := by
      simp [Srt.insR]
    rw [e]
    exact h
  | y :: ys, s, hs, h => by
    have hw : wrap64 ((i : Int) + 1) = ((i + 1 : Nat) : Int) := wrapN1 i (by omega)
    have hlen : ((y :: ys).reverse ++ s).length = ys.length + 1 + s.length := by rw [List.length_append, List.length_reverse, List.length_cons]
    have hs' : ys.length + 1 + s.length ≤ 1000 := by simpa using hs
    have hm : wrap64 (((y :: ys).length : Int) - 1) = (ys.length : Int) := by
      rw [List.length_cons, wrap64_id (by omega) (by omega)]; omega
    have hrd : rd_T92 ((y :: ys).reverse ++ s) (ys.length : Int) = y := by
      unfold rd_T92
      rw [List.getD_eq_getElem?_getD, Int.toNat_natCast]
      simp
    have hlt : impl_sortedNotes_lt x y = decide (x.f1 < y.f1 ∨ (x.f1 = y.f1 ∧ x.f0 < y.f0)) := rfl
    refine tstep ?_
    simp only [spec_ntSorted.l1, hw, hm, hrd, ntBefore_eq, ← hlt]
    refine tpos (by rw [List.length_cons]; omega) (tpos (Int.natCast_nonneg _) (tpos (by omega) (tlet (tite (fun c => ?_) (fun c => ?_)))))
    · have h2 := nts_in x l i hi Q ys (y :: s) (by simp; omega) (by
        have e : (Srt.insR impl_sortedNotes_lt x ys).reverse ++ y :: s = (Srt.insR impl_sortedNotes_lt x (y :: ys)).reverse ++ s := by
          rw [show Srt.insR impl_sortedNotes_lt x (y :: ys) = y :: Srt.insR impl_sortedNotes_lt x ys from if_pos c]
          simp
        rw [e]; exact h)
      have e : ys.reverse ++ y :: s = (y :: ys).reverse ++ s := by simp
      rwa [e] at h2
    · have e : (([] ++ ((y :: ys).reverse ++ s).take (Int.toNat ((y :: ys).length : Int))) ++ [⟨x.f0, x.f1, x.f2⟩]) ++ ((y :: ys).reverse ++ s).drop (Int.toNat ((y :: ys).length : Int)) = (Srt.insR impl_sortedNotes_lt x (y :: ys)).reverse ++ s := by
        rw [show Srt.insR impl_sortedNotes_lt x (y :: ys) = x :: y :: ys from if_neg c, Int.toNat_natCast, List.nil_append, List.take_left' (by simp), List.drop_left' (by simp)]
        simp
      have g1 : ([] ++ ((y :: ys).reverse ++ s).take (Int.toNat ((y :: ys).length : Int))).length ≤ 1000 := by simp; omega
      refine tlet (tpos (by simp; omega) (tpos (by rw [hlen]; simp; omega) (tlet (tpos (small30 (by simp; omega)) (tlet (tlet (tpos (small30 (by simp; omega)) (tlet (tlet (tpos (small30 (by simp; omega)) ?_))))))))))
      rw [e]
      exact h
theorem nts_loop (l : List S92) (hl : l.length ≤ 1000) : ∀ (d i : Nat) (r : List S92), i + d = l.length → r.length = i →
    Tot (fun k => spec_ntSorted.l0 k r.reverse l (l.length : Int) (i : Int)) (fun y => ∃ t, t = ((l.drop i).foldl (fun r x => Srt.insR impl_sortedNotes_lt x r) r).reverse ∧ (ntGood t → y = (t, true)) ∧ (¬ ntGood t → y = ([], false)))
  | 0, i, r, hi, hr => by
    refine tstep ?_
    simp only [spec_ntSorted.l0]
    refine tneg (by omega) (tbind (ntGood_tot r.reverse (by rw [List.length_reverse]; omega)) (fun b hb => ?_))
    rw [List.drop_eq_nil_of_le (by omega), List.foldl_nil]
    exact tite (fun c => tsome ⟨_, rfl, fun _ => rfl, fun h => absurd (hb.1 c) h⟩) (fun c => tsome ⟨_, rfl, fun h => absurd (hb.2 h) c, fun _ => rfl⟩)
  | d + 1, i, r, hi, hr => by
    have hlt : i < l.length := by omega
    have hx : rd_T92 l (i : Int) = l[i] := by
      unfold rd_T92
      rw [List.getD_eq_getElem?_getD, Int.toNat_natCast, List.getElem?_eq_getElem hlt]
      rfl
    refine tstep ?_
    simp only [spec_ntSorted.l0]
    refine tpos (by omega) (tpos (Int.natCast_nonneg _) (tpos (by omega) ?_))
    have h := nts_loop l hl d (i + 1) (Srt.insR impl_sortedNotes_lt l[i] r) (by omega) (by rw [insLen, hr])
    rw [List.drop_eq_getElem_cons hlt, List.foldl_cons]
    have h2 := nts_in l[i] l i (by omega) _ r [] (by simp; omega) (by rw [List.append_nil]; exact h)
    rw [List.append_nil] at h2
    rw [hx, List.length_reverse]
    exact h2
theorem ntSorted_tot (l : List S92) (hl : l.length ≤ 1000) : Tot (fun k => spec_ntSorted.f k l) (fun y => (ntGood (Srt.nsort impl_sortedNotes_lt l) → y = (Srt.nsort impl_sortedNotes_lt l, true)) ∧ (¬ ntGood (Srt.nsort impl_sortedNotes_lt l) → y = ([], false))) := by
  unfold spec_ntSorted.f
  refine tmono (nts_loop l hl l.length 0 [] (by omega) rfl) (fun y hy => ?_)
  obtain ⟨t, rfl, h1, h2⟩ := hy
  exact ⟨h1, h2⟩
theorem scoreOf_tot2 (l : List S92) (hl : l.length ≤ 1048576) : Tot (fun k => impl_scoreOf.f k l) (fun y => (ntGood l → y = (l, true)) ∧ (¬ ntGood l → y = ([], false))) := by
  unfold impl_scoreOf.f
  exact tbind (isScore_tot l hl) (fun b hb => tite (fun c => tsome ⟨fun _ => rfl, fun h => absurd (hb.1 c) h⟩) (fun c => tsome ⟨fun h => absurd (hb.2 h) c, fun _ => rfl⟩))
theorem sortedNotes_eq (l : List S92) (hl : l.length ≤ 1000) : impl_sortedNotes.f l = some (Srt.nsort impl_sortedNotes_lt l) := by
  unfold impl_sortedNotes.f
  rw [if_pos (small30 (by omega))]
theorem sorted_agree (l : List S92) (hl : l.length ≤ 1000) : ∃ r : List S92 × Bool, Tot (fun k => spec_ntSorted.f k l) (fun y => y = r) ∧ Tot (fun k => impl_scoreOf.f k (Srt.nsort impl_sortedNotes_lt l)) (fun y => y = r) ∧ r.1.length ≤ 1048576 ∧ (r = (Srt.nsort impl_sortedNotes_lt l, true) ∨ r = ([], false)) := by
  by_cases h : ntGood (Srt.nsort impl_sortedNotes_lt l)
  · exact ⟨(Srt.nsort impl_sortedNotes_lt l, true), tmono (ntSorted_tot l hl) (fun y hy => hy.1 h), tmono (scoreOf_tot2 _ (by rw [nsLen]; omega)) (fun y hy => hy.1 h), by rw [nsLen]; omega, Or.inl rfl⟩
  · exact ⟨([], false), tmono (ntSorted_tot l hl) (fun y hy => hy.2 h), tmono (scoreOf_tot2 _ (by rw [nsLen]; omega)) (fun y hy => hy.2 h), Nat.zero_le _, Or.inr rfl⟩

theorem joinScores_agree (a b : List S92) (ha : a.length ≤ 1048576) (hb : b.length ≤ 1048576) : ∃ r, Tot (fun k => spec_JoinScores.f k a b) (fun y => y = r) ∧ Tot (fun k => impl_JoinScores.f k a b) (fun y => y = r) ∧ r.1.length ≤ 1048576 := by
  unfold spec_JoinScores.f impl_JoinScores.f
  have jf : Tot (fun k => impl_JoinScores.j0 k a b true) (fun y => y = ([], false)) := by
    refine tstep ?_
    simp only [impl_JoinScores.j0]
    exact tpos (by trivial) (tsome rfl)
  by_cases h : ntGood a ∧ ntGood b
  · have l1 : a.length ≤ 30 := by have := h.1.2; omega
    have l2 : b.length ≤ 30 := by have := h.2.2; omega
    obtain ⟨r, h1, h2, h3, _⟩ := sorted_agree (a ++ b) (by rw [lenS]; omega)
    refine ⟨r, ?_, ?_, h3⟩
    · refine tbind (ntGood_tot a ha) (fun x hx => tpos (hx.2 h.1) (tbind (ntGood_tot b hb) (fun y hy => tpos (hy.2 h.2) (tlet (tpos (small30 (by simp; omega)) (tlet (tpos (small30 (by simp; omega)) ?_)))))))
      rw [List.nil_append]
      exact tbind h1 (fun y e => tsome (by rw [e]))
    · refine tbind (isScore_tot a ha) (fun x hx => tpos (hx.2 h.1) (tbind (isScore_tot b hb) (fun y hy => ?_)))
      rw [show y = true from hy.2 h.2]
      refine tstep ?_
      simp only [impl_JoinScores.j0]
      refine tneg (by decide) ?_
      have hc : clone_Note.f a = some a := by
        unfold clone_Note.f
        show (if ([] : List S92).length + a.length < 5864062014805 then some ([] ++ a) else none) = some a
        rw [if_pos (small30 (by simp; omega)), List.nil_append]
      rw [hc, ]
      refine tlet (tpos (small30 (by omega)) ?_)
      rw [sortedNotes_eq (a ++ b) (by rw [lenS]; omega)]
      exact tlet (tbind h2 (fun y e => tsome (by rw [e])))
  · refine ⟨([], false), ?_, ?_, Nat.zero_le _⟩
    · refine tbind (ntGood_tot a ha) (fun x hx => tite (fun c => ?_) (fun _ => tsome rfl))
      exact tbind (ntGood_tot b hb) (fun y hy => tneg (fun c2 => h ⟨hx.1 c, hy.1 c2⟩) (tsome rfl))
    · refine tbind (isScore_tot a ha) (fun x hx => tite (fun c => ?_) (fun _ => jf))
      refine tbind (isScore_tot b hb) (fun y hy => ?_)
      have e : y = false := by
        cases y with
        | false => rfl
        | true => exact absurd ⟨hx.1 c, hy.1 rfl⟩ h
      rw [e]
      exact jf


theorem FnExactJoinScores (l0 : List (S94)) (l1 : List (S94)) (hm0 : l0.length ≤ 9223372036854775807) (hw0 : ∀ y ∈ l0, Glue.wf64 y.f0 ∧ Glue.wf64 y.f1 ∧ Glue.wf64 y.f2) (hm1 : l1.length ≤ 9223372036854775807) (hw1 : ∀ y ∈ l1, Glue.wf64 y.f0 ∧ Glue.wf64 y.f1 ∧ Glue.wf64 y.f2) : ∃ k, laws_FnExactJoinScores.f k l0 l1 = some true := by
  refine rounds ?_
  unfold laws_FnExactJoinScores.f
  rw [szNoteS l0 (1048576 : Int) (by omega) (by omega) hm0]
  simp only [Option.bind_some]
  by_cases hl0 : (1048576 : Int) < (l0.length : Int)
  · simp only [if_pos hl0]; exact tpos (by omega) (tsome rfl)
  simp only [if_neg hl0]
  refine tneg (by omega) ?_
  rw [szNoteS l1 ((1048576 : Int) - (l0.length : Int)) (by omega) (by omega) hm1]
  simp only [Option.bind_some]
  by_cases hl1 : ((1048576 : Int) - (l0.length : Int)) < (l1.length : Int)
  · simp only [if_pos hl1]; exact tpos (by omega) (tsome rfl)
  simp only [if_neg hl1]
  refine tneg (by omega) ?_
  obtain ⟨r, hS, hI, hR⟩ := joinScores_agree (l0.map cvNote) (l1.map cvNote) (by simp; omega) (by simp; omega)
  repeat first
    | exact tsome rfl
    | (refine tbind hS (fun _ e => ?_); subst e)
    | (refine tbind hI (fun _ e => ?_); subst e)
    | (refine tbind (toNoteS l0 (by omega)) (fun _ e => ?_); subst e)
    | (refine tbind (eqNoteS _ (by first | omega | (dsimp only; omega) | (simp; omega) | assumption)) (fun _ e => ?_); subst e)
    | (refine tbind (toNoteS l1 (by omega)) (fun _ e => ?_); subst e)
    | (refine tbind (eqNoteS _ (by first | assumption | omega | (dsimp only; omega) | (simp; omega))) (fun _ e => ?_); subst e)
    | (refine tbind (markNoteS _ 1 (by first | assumption | omega | (dsimp only; omega) | (simp; omega)) (by omega) (by omega)) (fun _ e => ?_); subst e)
    | (refine tbind (heldNoteS 1 _ (by first | omega | (simp; omega)) (by omega) (by omega)) (fun _ e => ?_); subst e)
    | (refine tbind (markNoteS _ _ (by first | omega | (simp; omega)) (by first | omega | (simp; omega)) (by first | omega | (simp; omega))) (fun _ e => ?_); subst e)
    | refine tpos rfl ?_
    | refine tneg (by dsimp only; omega) ?_
    | refine tneg (by omega) ?_
    | refine tneg (by simp; done) ?_
    | refine tpos (by dsimp only) ?_
    | (refine tstep ?_; simp only [laws_FnExactJoinScores.j0])
    | (refine tstep ?_; simp only [laws_FnExactJoinScores.j1])
    | (refine tstep ?_; simp only [laws_FnExactJoinScores.j2])
end Go.Proofs.Ytjgpngeifgcidaa.Pure
