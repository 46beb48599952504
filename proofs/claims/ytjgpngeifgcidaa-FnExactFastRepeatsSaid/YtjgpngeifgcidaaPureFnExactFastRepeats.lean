/- The plain side of the law FnExactFastRepeats: lists and numbers alone. -/
import Derived.Test.YtjgpngeifgcidaaPFnExactFastRepeatsx8
import Derived.Test.YtjgpngeifgcidaaGlue
import Derived.Test.YtjgpngeifgcidaaTot
set_option linter.unusedVariables false
set_option linter.unusedSimpArgs false
namespace Go.Proofs.Ytjgpngeifgcidaa.Pure
open Go.RowKit Go.Proofs.Ytjgpngeifgcidaa.PFnExactFastRepeats Go.Proofs.YtjgpngeifgcidaaW.PrintWords Go.Proofs.YtjgpngeifgcidaaW.PrintMore Go.Proofs.Ytjgpngeifgcidaa.Tot

theorem l1In_eq (a b c : Int) : spec_l1In.f a b c = some (decide (b ≤ a ∧ a ≤ c)) := by
  unfold spec_l1In.f
  by_cases h : b ≤ a <;> simp [h]

def cvNote (x : S94) : S92 := ⟨x.f0, x.f1, x.f2⟩
theorem toNoteS (l : List S94) (hl : l.length ≤ 1048576) : Tot (fun k => laws_toNoteS.f k l) (fun r => r = l.map cvNote) := by
  unfold laws_toNoteS.f
  refine tpos (by omega) (tpos (by omega) ?_)
  have key := trec (σ := List S92 × Int) (fun s k => laws_toNoteS.l0 k l s.1 s.2) (fun s => ((l.length : Int) - s.2).toNat)
    (fun s => 0 ≤ s.2 ∧ s.2 ≤ (l.length : Int) ∧ s.1.length = l.length ∧ ∀ j : Int, 0 ≤ j → j < s.2 → s.1.getD j.toNat z92 = cvNote (l.getD j.toNat z94)) (fun _ r => r = l.map cvNote) ?_
  · exact key (List.replicate (l.length : Int).toNat z92, 0) ⟨Int.le_refl _, by dsimp only; omega, by simp, fun j h0 h1 => by dsimp only at h1; omega⟩
  · rintro ⟨ys, i⟩ ⟨h0, h1, h2, h3⟩ ih
    dsimp only at h0 h1 h2 h3
    simp only [laws_toNoteS.l0, laws_toNote.f, Option.bind_some]
    refine tite (fun c => ?_) (fun c => ?_)
    · refine tpos h0 (tpos (by omega) ?_)
      rw [wrap64_id (by omega) (by omega)]
      refine ih (_, i + 1) ⟨by dsimp only; omega, by dsimp only; omega, by simp [h2], ?_⟩ (by dsimp only; omega)
      intro j hj0 hj1
      dsimp only at hj1 ⊢
      by_cases e : j = i
      · subst e; rw [ld_set_self _ _ (by omega) hj0]; rfl
      · rw [ld_set_ne _ _ _ h0 hj0 (by omega)]; exact h3 j hj0 (by omega)
    · exact tsome (write_end h2 (fun j a b => h3 j a (by omega)))

theorem eqNoteS (l : List S92) (hl : l.length ≤ 1048576) : Tot (fun k => laws_eqNoteS.f k l l) (fun r => r = true) := by
  unfold laws_eqNoteS.f
  refine tpos rfl ?_
  refine trec (σ := Int) (fun i k => laws_eqNoteS.l0 k l l i) (fun i => ((l.length : Int) - i).toNat) (fun i => 0 ≤ i ∧ i ≤ (l.length : Int)) (fun _ r => r = true) ?_ 0 ⟨Int.le_refl _, by omega⟩
  rintro i ⟨h0, h1⟩ ih
  simp only [laws_eqNoteS.l0, laws_eqNote.f, if_true, Option.bind_some]
  refine tite (fun c => ?_) (fun c => tsome rfl)
  refine tpos h0 (tpos (by omega) ?_)
  rw [wrap64_id (by omega) (by omega)]
  exact ih (i + 1) ⟨by omega, by omega⟩ (by (try dsimp only); omega)

theorem szNoteS (l : List S94) (n : Int) (hn : 0 ≤ n) (hn2 : n ≤ 1048576) (hl : l.length ≤ 9223372036854775807) : laws_szNoteS.f l n = some (if n < l.length then -1 else n - l.length) := by
  unfold laws_szNoteS.f
  simp (disch := omega) only [wrap64_id]
  by_cases h : n < l.length
  · rw [if_pos (by omega), if_pos h]
  · rw [if_neg (by omega), if_neg h]

abbrev OkNote (a b c : Int) : Prop := 24 ≤ a ∧ a ≤ 96 ∧ 0 ≤ b ∧ b ≤ 999 ∧ 1 ≤ c ∧ c ≤ 99
theorem ntNote_eq (a b c : Int) : spec_ntNote.f a b c = some (decide (OkNote a b c)) := by
  unfold spec_ntNote.f spec_ntPitch.f OkNote
  simp only [l1In_eq, Option.bind_some, decide_eq_true_eq]
  split
  · split
    · congr 1; rw [Bool.eq_iff_iff]; simp only [decide_eq_true_eq]; omega
    · congr 1; rw [Bool.eq_iff_iff]; simp only [decide_eq_true_eq]; simp; omega
  · congr 1; rw [Bool.eq_iff_iff]; simp only [decide_eq_true_eq]; simp; omega
theorem implIsNote_eq (a b c : Int) : impl_IsNote.f a b c = some (decide (OkNote a b c)) := by
  unfold impl_IsNote.f OkNote
  by_cases h1 : 24 ≤ a <;> by_cases h2 : a ≤ 96 <;> by_cases h3 : 0 ≤ b <;> by_cases h4 : b ≤ 999 <;> by_cases h5 : 1 ≤ c <;> simp [h1, h2, h3, h4, h5] <;> omega

def ntLess (x y : S92) : Prop := x.f1 < y.f1 ∨ (x.f1 = y.f1 ∧ x.f0 < y.f0)
def ntMeet (x y : S92) : Prop := x.f0 = y.f0 ∧ y.f1 < x.f1 + x.f2
def ntA (l : List S92) (j : Int) : Prop := OkNote (rd_T92 l j).f0 (rd_T92 l j).f1 (rd_T92 l j).f2 ∧ (0 < j → ntLess (rd_T92 l (j - 1)) (rd_T92 l j))
def ntC (l : List S92) (j : Int) : Prop := OkNote (rd_T92 l j).f0 (rd_T92 l j).f1 (rd_T92 l j).f2 ∧ (0 < j → ntLess (rd_T92 l (j - 1)) (rd_T92 l j)) ∧ (∀ p : Int, 0 ≤ p → p < j → ¬ ntMeet (rd_T92 l p) (rd_T92 l j))
theorem nt_take (l : List S92) (i p : Int) (h0 : 0 ≤ p) (h : p < i) : rd_T92 (l.take i.toNat) p = rd_T92 l p := by
  unfold rd_T92
  exact ld_take i.toNat p h0 (by omega)
theorem nt_start (l : List S92) (i : Int) (hp : ∀ j : Int, 0 ≤ j → j < i → ntC l j) (hi : 0 < i → ntLess (rd_T92 l (i - 1)) (rd_T92 l i)) (p : Int) (p0 : 0 ≤ p) (p1 : p < i) : (rd_T92 l p).f1 ≤ (rd_T92 l i).f1 := by
  have key : ∀ (d : Nat) (j : Int), j = p + d → j ≤ i → (rd_T92 l p).f1 ≤ (rd_T92 l j).f1 := by
    intro d
    induction d with
    | zero => intro j e _; rw [show j = p by omega]; exact Int.le_refl _
    | succ d ih =>
      intro j e h
      have h1 := ih (j - 1) (by omega) (by omega)
      have h2 : ntLess (rd_T92 l (j - 1)) (rd_T92 l j) := by
        by_cases e2 : j = i
        · rw [e2]; exact hi (by omega)
        · exact (hp j (by omega) (by omega)).2.1 (by omega)
      unfold ntLess at h2
      omega
  exact key (i - p).toNat i (by omega) (Int.le_refl _)

def ntGood (l : List S92) : Prop := (∀ j : Int, 0 ≤ j → j < (l.length : Int) → ntC l j) ∧ (l.length : Int) ≤ 30
theorem ntBefore_eq (a b c d e f : Int) : spec_ntBefore.f a b c d e f = some (decide (b < e ∨ (b = e ∧ a < d))) := by
  unfold spec_ntBefore.f
  by_cases h1 : b < e <;> by_cases h2 : b = e <;> simp [h1, h2]
theorem noteLess_eq (a b c d e f : Int) : impl_noteLess.f a b c d e f = some (decide (b < e ∨ (b = e ∧ a < d))) := by
  unfold impl_noteLess.f
  by_cases h2 : b = e
  · subst h2; simp
  · simp [h2]
theorem ntMeet_eq (a b c d e f : Int) (h : OkNote a b c) (g : OkNote d e f) : spec_ntMeet.f a b c d e f = some (decide (a = d ∧ b < e + f ∧ e < b + c)) := by
  unfold spec_ntMeet.f
  unfold OkNote at h g
  rw [wrap64_id (x := e + f) (by omega) (by omega), wrap64_id (x := b + c) (by omega) (by omega)]
  by_cases h1 : a = d <;> by_cases h2 : b < e + f <;> simp [h1, h2]
theorem noteEnd_eq (a b c : Int) (h : OkNote a b c) : impl_noteEnd.f a b c = some (b + c) := by
  unfold impl_noteEnd.f
  unfold OkNote at h
  rw [wrap64_id (by omega) (by omega)]

theorem nt_spec_ntGood_loop (l : List S92) (hl : l.length ≤ 1048576) : Tot (fun k => spec_ntGood.l0 k l l (l.length : Int) 0) (fun b => (b = true) ↔ ((∀ j : Int, 0 ≤ j → j < (l.length : Int) → ntC l j) ∧ (l.length : Int) ≤ 30)) := by
  refine trec (σ := Int) (fun i k => spec_ntGood.l0 k l l (l.length : Int) i) (fun i => ((l.length : Int) - i).toNat) (fun i => 0 ≤ i ∧ i ≤ (l.length : Int) ∧ ∀ j : Int, 0 ≤ j → j < i → ntC l j)
    (fun i b => (b = true) ↔ ((∀ j : Int, i ≤ j → j < (l.length : Int) → ntC l j) ∧ (l.length : Int) ≤ 30)) ?_ 0 ⟨Int.le_refl _, by omega, fun j a b => by omega⟩
  rintro i ⟨h0, h1, hp⟩ ih
  have hno : i < (l.length : Int) → ¬ ntC l i → Tot (fun _ => some false) (fun b => (b = true) ↔ ((∀ j : Int, i ≤ j → j < (l.length : Int) → ntC l j) ∧ (l.length : Int) ≤ 30)) := fun a b => tsome (all_no a b)
  have hjT : i < (l.length : Int) → ¬ ntA l i → Tot (fun k => spec_ntGood.j1 k l i l (l.length : Int) i true (rd_T92 l i).f0 (rd_T92 l i).f1 (rd_T92 l i).f2) (fun b => (b = true) ↔ ((∀ j : Int, i ≤ j → j < (l.length : Int) → ntC l j) ∧ (l.length : Int) ≤ 30)) := by
    intro a b
    refine tstep ?_
    simp only [spec_ntGood.j1, if_true]
    exact hno a (fun h => b ⟨h.1, h.2.1⟩)
  have hjF : i < (l.length : Int) → ntA l i → Tot (fun k => spec_ntGood.j1 k l i l (l.length : Int) i false (rd_T92 l i).f0 (rd_T92 l i).f1 (rd_T92 l i).f2) (fun b => (b = true) ↔ ((∀ j : Int, i ≤ j → j < (l.length : Int) → ntC l j) ∧ (l.length : Int) ≤ 30)) := by
    intro a hA
    refine tstep ?_
    simp only [spec_ntGood.j1, Option.bind_some]
    refine tneg (by simp) (tpos h0 (tpos h1 ?_))
    have hlen : ((l.take i.toNat).length : Int) = i := by simp; omega
    rw [hlen]
    refine trec (σ := Int) (fun p k => spec_ntGood.l1 k l l (l.length : Int) i (l.take i.toNat) i p (rd_T92 l i).f0 (rd_T92 l i).f1 (rd_T92 l i).f2) (fun p => (i - p).toNat) (fun p => 0 ≤ p ∧ p ≤ i ∧ ∀ q : Int, 0 ≤ q → q < p → ¬ ntMeet (rd_T92 l q) (rd_T92 l i))
      (fun _ => (fun b => (b = true) ↔ ((∀ j : Int, i ≤ j → j < (l.length : Int) → ntC l j) ∧ (l.length : Int) ≤ 30))) ?_ 0 ⟨Int.le_refl _, h0, fun q a b => by omega⟩
    rintro p ⟨p0, p1, pq⟩ ihp
    simp only [spec_ntGood.l1, hlen, wrap64_id (show -9223372036854775808 ≤ i + 1 by omega) (by omega), wrap64_id (show -9223372036854775808 ≤ p + 1 by omega) (by omega)]
    refine tite (fun c => ?_) (fun c => ?_)
    · refine tpos p0 (tpos c ?_)
      simp only [nt_take l i p p0 c]
      have hs := nt_start l i hp hA.2 p p0 c
      have o1 := (hp p p0 c).1
      have o2 := hA.1
      simp only [ntMeet_eq _ _ _ _ _ _ o2 o1, Option.bind_some, decide_eq_true_eq]
      unfold OkNote at o1 o2
      have go : ¬ ntMeet (rd_T92 l p) (rd_T92 l i) → Tot (fun k => spec_ntGood.l1 k l l (l.length : Int) i (l.take i.toNat) i (p + 1) (rd_T92 l i).f0 (rd_T92 l i).f1 (rd_T92 l i).f2) (fun b => (b = true) ↔ ((∀ j : Int, i ≤ j → j < (l.length : Int) → ntC l j) ∧ (l.length : Int) ≤ 30)) := fun hm =>
        ihp (p + 1) ⟨by omega, by omega, fun q q0 q1 => by
          by_cases e : q = p
          · rw [e]; exact hm
          · exact pq q q0 (by omega)⟩ (by (try dsimp only); omega)
      repeat' (refine tite (fun _ => ?_) (fun _ => ?_))
      all_goals first
        | exact go (by unfold ntMeet; omega)
        | exact hno a (fun h => h.2.2 p p0 c (by unfold ntMeet; omega))
    · have Ci : ntC l i := ⟨hA.1, hA.2, fun q q0 q1 => pq q q0 (by omega)⟩
      exact tmono (ih (i + 1) ⟨by omega, by omega, fun j j0 j1 => by
        by_cases e : j = i
        · rw [e]; exact Ci
        · exact hp j j0 (by omega)⟩ (by (try dsimp only); omega)) (fun b hb => all_go a Ci hb)
  simp only [spec_ntGood.l0, ntNote_eq, ntBefore_eq, Option.bind_some, decide_eq_true_eq]
  simp only [show wrap64 (i - 1) = i - 1 from wrap64_id (by omega) (by omega)]
  by_cases hL : ntLess (rd_T92 l (i - 1)) (rd_T92 l i)
  all_goals
    have hL2 := hL
    unfold ntLess at hL2
    simp only [hL2, decide_true, decide_false, Bool.not_true, Bool.not_false]
    repeat' (refine tite (fun _ => ?_) (fun _ => ?_))
    all_goals first
      | (exfalso; omega)
      | exact hjF (by omega) ⟨by assumption, fun _ => hL⟩
      | exact hjF (by omega) ⟨by assumption, fun h => absurd h (by omega)⟩
      | exact hjT (by omega) (fun h => absurd h.1 (by assumption))
      | exact hjT (by omega) (fun h => absurd (h.2 (by omega)) hL)
      | exact tsome (all_end (by omega) (by simp only [decide_eq_true_eq]))

theorem nt_impl_IsScore_loop (l : List S92) (hl : l.length ≤ 1048576) : Tot (fun k => impl_IsScore.l0 k l l (l.length : Int) 0) (fun b => (b = true) ↔ ((∀ j : Int, 0 ≤ j → j < (l.length : Int) → ntC l j) ∧ True)) := by
  refine trec (σ := Int) (fun i k => impl_IsScore.l0 k l l (l.length : Int) i) (fun i => ((l.length : Int) - i).toNat) (fun i => 0 ≤ i ∧ i ≤ (l.length : Int) ∧ ∀ j : Int, 0 ≤ j → j < i → ntC l j)
    (fun i b => (b = true) ↔ ((∀ j : Int, i ≤ j → j < (l.length : Int) → ntC l j) ∧ True)) ?_ 0 ⟨Int.le_refl _, by omega, fun j a b => by omega⟩
  rintro i ⟨h0, h1, hp⟩ ih
  have hno : i < (l.length : Int) → ¬ ntC l i → Tot (fun _ => some false) (fun b => (b = true) ↔ ((∀ j : Int, i ≤ j → j < (l.length : Int) → ntC l j) ∧ True)) := fun a b => tsome (all_no a b)
  have hjT : i < (l.length : Int) → ¬ ntA l i → Tot (fun k => impl_IsScore.j1 k l i l (l.length : Int) i true (rd_T92 l i).f0 (rd_T92 l i).f1 (rd_T92 l i).f2) (fun b => (b = true) ↔ ((∀ j : Int, i ≤ j → j < (l.length : Int) → ntC l j) ∧ True)) := by
    intro a b
    refine tstep ?_
    simp only [impl_IsScore.j1, if_true]
    exact hno a (fun h => b ⟨h.1, h.2.1⟩)
  have hjF : i < (l.length : Int) → ntA l i → Tot (fun k => impl_IsScore.j1 k l i l (l.length : Int) i false (rd_T92 l i).f0 (rd_T92 l i).f1 (rd_T92 l i).f2) (fun b => (b = true) ↔ ((∀ j : Int, i ≤ j → j < (l.length : Int) → ntC l j) ∧ True)) := by
    intro a hA
    refine tstep ?_
    simp only [impl_IsScore.j1, Option.bind_some]
    refine tneg (by simp) (tpos h0 (tpos h1 ?_))
    have hlen : ((l.take i.toNat).length : Int) = i := by simp; omega
    rw [hlen]
    refine trec (σ := Int) (fun p k => impl_IsScore.l1 k l l (l.length : Int) i (l.take i.toNat) i p (rd_T92 l i).f0 (rd_T92 l i).f1 (rd_T92 l i).f2) (fun p => (i - p).toNat) (fun p => 0 ≤ p ∧ p ≤ i ∧ ∀ q : Int, 0 ≤ q → q < p → ¬ ntMeet (rd_T92 l q) (rd_T92 l i))
      (fun _ => (fun b => (b = true) ↔ ((∀ j : Int, i ≤ j → j < (l.length : Int) → ntC l j) ∧ True))) ?_ 0 ⟨Int.le_refl _, h0, fun q a b => by omega⟩
    rintro p ⟨p0, p1, pq⟩ ihp
    simp only [impl_IsScore.l1, hlen, wrap64_id (show -9223372036854775808 ≤ i + 1 by omega) (by omega), wrap64_id (show -9223372036854775808 ≤ p + 1 by omega) (by omega)]
    refine tite (fun c => ?_) (fun c => ?_)
    · refine tpos p0 (tpos c ?_)
      simp only [nt_take l i p p0 c]
      have hs := nt_start l i hp hA.2 p p0 c
      have o1 := (hp p p0 c).1
      have o2 := hA.1
      simp only [noteEnd_eq _ _ _ o1, Option.bind_some]
      unfold OkNote at o1 o2
      have go : ¬ ntMeet (rd_T92 l p) (rd_T92 l i) → Tot (fun k => impl_IsScore.l1 k l l (l.length : Int) i (l.take i.toNat) i (p + 1) (rd_T92 l i).f0 (rd_T92 l i).f1 (rd_T92 l i).f2) (fun b => (b = true) ↔ ((∀ j : Int, i ≤ j → j < (l.length : Int) → ntC l j) ∧ True)) := fun hm =>
        ihp (p + 1) ⟨by omega, by omega, fun q q0 q1 => by
          by_cases e : q = p
          · rw [e]; exact hm
          · exact pq q q0 (by omega)⟩ (by (try dsimp only); omega)
      repeat' (refine tite (fun _ => ?_) (fun _ => ?_))
      all_goals first
        | exact go (by unfold ntMeet; omega)
        | exact hno a (fun h => h.2.2 p p0 c (by unfold ntMeet; omega))
    · have Ci : ntC l i := ⟨hA.1, hA.2, fun q q0 q1 => pq q q0 (by omega)⟩
      exact tmono (ih (i + 1) ⟨by omega, by omega, fun j j0 j1 => by
        by_cases e : j = i
        · rw [e]; exact Ci
        · exact hp j j0 (by omega)⟩ (by (try dsimp only); omega)) (fun b hb => all_go a Ci hb)
  simp only [impl_IsScore.l0, implIsNote_eq, noteLess_eq, Option.bind_some, decide_eq_true_eq]
  simp only [show wrap64 (i - 1) = i - 1 from wrap64_id (by omega) (by omega)]
  by_cases hL : ntLess (rd_T92 l (i - 1)) (rd_T92 l i)
  all_goals
    have hL2 := hL
    unfold ntLess at hL2
    simp only [hL2, decide_true, decide_false, Bool.not_true, Bool.not_false]
    repeat' (refine tite (fun _ => ?_) (fun _ => ?_))
    all_goals first
      | (exfalso; omega)
      | exact hjF (by omega) ⟨by assumption, fun _ => hL⟩
      | exact hjF (by omega) ⟨by assumption, fun h => absurd h (by omega)⟩
      | exact hjT (by omega) (fun h => absurd h.1 (by assumption))
      | exact hjT (by omega) (fun h => absurd (h.2 (by omega)) hL)
      | exact tsome (all_end (by omega) (by simp))

theorem ntGood_tot (l : List S92) (hl : l.length ≤ 1048576) : Tot (fun k => spec_ntGood.f k l) (fun b => (b = true) ↔ ntGood l) := by
  unfold spec_ntGood.f
  exact nt_spec_ntGood_loop l hl
theorem isScore_tot (l : List S92) (hl : l.length ≤ 1048576) : Tot (fun k => impl_IsScore.f k l) (fun b => (b = true) ↔ ntGood l) := by
  unfold impl_IsScore.f ntGood
  refine tite (fun c => tsome ⟨(fun h => by simp at h), (fun h => by have := h.2; omega)⟩) (fun c => ?_)
  refine tmono (nt_impl_IsScore_loop l hl) (fun b hb => ?_)
  rw [hb]
  exact ⟨fun h => ⟨h.1, by omega⟩, fun h => ⟨h.1, trivial⟩⟩

def mkNote (j : Int) (n : Nat) : List S92 := (List.range n).map fun i : Nat => (⟨j + 3 * (i : Int) + 0, j + 3 * (i : Int) + 1, j + 3 * (i : Int) + 2⟩ : S92)
theorem mkNote_at (j : Int) (n : Nat) (i : Int) (h0 : 0 ≤ i) (h : i < n) : rd_T92 (mkNote j n) i = ⟨j + 3 * i + 0, j + 3 * i + 1, j + 3 * i + 2⟩ := by
  obtain ⟨m, rfl⟩ := Int.eq_ofNat_of_zero_le h0
  have hm : m < n := by omega
  unfold rd_T92 mkNote
  simp [List.getD, hm]
theorem markNoteS (l : List S92) (j : Int) (hl : l.length ≤ 1048576) (hj : 0 ≤ j) (hj2 : j ≤ 1125899906842624) : Tot (fun k => laws_markNoteS.f k l j) (fun r => r = (j + 3 * (l.length : Int), mkNote j l.length)) := by
  unfold laws_markNoteS.f
  have key := trec (σ := List S92 × Int) (fun s k => laws_markNoteS.l0 k s.1 (j + 3 * s.2) s.2) (fun s => ((l.length : Int) - s.2).toNat)
    (fun s => 0 ≤ s.2 ∧ s.2 ≤ (l.length : Int) ∧ s.1.length = l.length ∧ ∀ i : Int, 0 ≤ i → i < s.2 → rd_T92 s.1 i = rd_T92 (mkNote j l.length) i) (fun _ r => r = (j + 3 * (l.length : Int), mkNote j l.length)) ?_
  · have h := key (l, 0) ⟨Int.le_refl _, by dsimp only; omega, rfl, fun i h0 h1 => by dsimp only at h1; omega⟩
    simpa using h
  · rintro ⟨ys, i⟩ ⟨h0, h1, h2, h3⟩ ih
    dsimp only at h0 h1 h2 h3
    simp only [laws_markNoteS.l0, Option.bind_some]
    refine tite (fun c => ?_) (fun c => ?_)
    · refine tpos h0 ?_
      have hi : i.toNat < ys.length := by omega
      have e : ∀ x : S92, rd_T92 (ys.set i.toNat x) i = x := fun x => by
        unfold rd_T92; exact ld_set_self x i (by omega) h0
      simp only [e, List.set_set, wrap64_id (x := j + 3 * i + 1) (by omega) (by omega), wrap64_id (x := j + 3 * i + 1 + 1) (by omega) (by omega), wrap64_id (x := j + 3 * i + 1 + 1 + 1) (by omega) (by omega)]
      rw [show j + 3 * i + 1 + 1 + 1 = j + 3 * (i + 1) by omega, wrap64_id (x := i + 1) (by omega) (by omega)]
      refine ih (_, i + 1) ⟨by dsimp only; omega, by dsimp only; omega, by simp [h2], ?_⟩ (by dsimp only; omega)
      intro p p0 p1
      dsimp only at p1 ⊢
      by_cases ep : p = i
      · subst ep
        rw [e, mkNote_at j _ p p0 (by omega)]
        congr 1 <;> omega
      · unfold rd_T92
        rw [ld_set_ne _ _ _ h0 p0 (by omega)]
        exact h3 p p0 (by omega)
    · obtain rfl : i = (l.length : Int) := by omega
      refine tsome ?_
      congr 1
      refine ld_ext (z := z92) (by simp [mkNote, h2]) (fun p p0 p1 => ?_)
      exact h3 p p0 (by omega)

theorem rd_eq (xs : List Int) (i : Int) : rd xs i = xs.getD i.toNat 0 := rfl

theorem toIntS (l : List Int) (hl : l.length ≤ 1048576) : Tot (fun k => laws_toIntS.f k l) (fun r => r = l) := by
  unfold laws_toIntS.f
  refine tpos (by omega) (tpos (by omega) ?_)
  have key := trec (σ := List Int × Int) (fun s k => laws_toIntS.l0 k l s.1 s.2) (fun s => ((l.length : Int) - s.2).toNat)
    (fun s => 0 ≤ s.2 ∧ s.2 ≤ (l.length : Int) ∧ s.1.length = l.length ∧ ∀ j : Int, 0 ≤ j → j < s.2 → s.1.getD j.toNat 0 = l.getD j.toNat 0) (fun _ r => r = l) ?_
  · exact key (List.replicate (l.length : Int).toNat 0, 0) ⟨Int.le_refl _, by dsimp only; omega, by simp, fun j h0 h1 => by dsimp only at h1; omega⟩
  · rintro ⟨ys, i⟩ ⟨h0, h1, h2, h3⟩ ih
    dsimp only at h0 h1 h2 h3
    simp only [laws_toIntS.l0]
    refine tite (fun c => ?_) (fun c => ?_)
    · refine tpos h0 (tpos (by omega) ?_)
      rw [wrap64_id (by omega) (by omega)]
      refine ih (_, i + 1) ⟨by dsimp only; omega, by dsimp only; omega, by simp [h2], ?_⟩ (by dsimp only; omega)
      intro j hj0 hj1
      dsimp only at hj1 ⊢
      by_cases e : j = i
      · subst e; rw [ld_set_self _ _ (by omega) hj0]; rfl
      · rw [ld_set_ne _ _ _ h0 hj0 (by omega)]; exact h3 j hj0 (by omega)
    · exact tsome (ld_ext (z := 0) h2 (fun j a b => h3 j a (by omega)))

theorem eqIntS (l : List Int) (hl : l.length ≤ 1048576) : Tot (fun k => laws_eqIntS.f k l l) (fun r => r = true) := by
  unfold laws_eqIntS.f
  refine tpos rfl ?_
  refine trec (σ := Int) (fun i k => laws_eqIntS.l0 k l l i) (fun i => ((l.length : Int) - i).toNat) (fun i => 0 ≤ i ∧ i ≤ (l.length : Int)) (fun _ r => r = true) ?_ 0 ⟨Int.le_refl _, by omega⟩
  rintro i ⟨h0, h1⟩ ih
  simp only [laws_eqIntS.l0, if_true]
  refine tite (fun c => ?_) (fun c => tsome rfl)
  refine tpos h0 (tpos (by omega) ?_)
  rw [wrap64_id (by omega) (by omega)]
  exact ih (i + 1) ⟨by omega, by omega⟩ (by (try dsimp only); omega)

theorem szIntS (l : List Int) (n : Int) (hn : 0 ≤ n) (hn2 : n ≤ 1048576) (hl : l.length ≤ 9223372036854775807) : laws_szIntS.f l n = some (if n < l.length then -1 else n - l.length) := by
  unfold laws_szIntS.f
  simp only [wrap64_id (x := n - (l.length : Int)) (by omega) (by omega)]
  by_cases h : n < l.length
  · rw [if_pos (by omega), if_pos h]
  · rw [if_neg (by omega), if_neg h]

def mkInts (j : Int) (n : Nat) : List Int := (List.range n).map fun i : Nat => j + (i : Int)
theorem mkInts_at (j : Int) (n : Nat) (i : Int) (h0 : 0 ≤ i) (h : i < n) : rd (mkInts j n) i = j + i := by
  obtain ⟨m, rfl⟩ := Int.eq_ofNat_of_zero_le h0
  have hm : m < n := by omega
  unfold rd mkInts
  simp [List.getD, hm]
theorem markIntS (l : List Int) (j : Int) (hl : l.length ≤ 1048576) (hj : 0 ≤ j) (hj2 : j ≤ 1125899906842624) : Tot (fun k => laws_markIntS.f k l j) (fun r => r = (j + (l.length : Int), mkInts j l.length)) := by
  unfold laws_markIntS.f
  have key := trec (σ := List Int × Int) (fun s k => laws_markIntS.l0 k s.1 (j + s.2) s.2) (fun s => ((l.length : Int) - s.2).toNat)
    (fun s => 0 ≤ s.2 ∧ s.2 ≤ (l.length : Int) ∧ s.1.length = l.length ∧ ∀ i : Int, 0 ≤ i → i < s.2 → rd s.1 i = rd (mkInts j l.length) i) (fun _ r => r = (j + (l.length : Int), mkInts j l.length)) ?_
  · have h := key (l, 0) ⟨Int.le_refl _, by dsimp only; omega, rfl, fun i h0 h1 => by dsimp only at h1; omega⟩
    simpa using h
  · rintro ⟨ys, i⟩ ⟨h0, h1, h2, h3⟩ ih
    dsimp only at h0 h1 h2 h3
    simp only [laws_markIntS.l0, Option.bind_some]
    refine tite (fun c => ?_) (fun c => ?_)
    · refine tpos h0 ?_
      rw [wrap64_id (x := j + i + 1) (by omega) (by omega), wrap64_id (x := i + 1) (by omega) (by omega), show j + i + 1 = j + (i + 1) by omega]
      refine ih (_, i + 1) ⟨by dsimp only; omega, by dsimp only; omega, by simp [h2], ?_⟩ (by dsimp only; omega)
      intro p p0 p1
      dsimp only at p1 ⊢
      by_cases ep : p = i
      · subst ep
        rw [mkInts_at j _ p p0 (by omega)]
        unfold rd; exact ld_set_self _ p (by omega) p0
      · unfold rd
        rw [ld_set_ne _ _ _ h0 p0 (by omega)]
        exact h3 p p0 (by omega)
    · obtain rfl : i = (l.length : Int) := by omega
      refine tsome ?_
      congr 1
      refine ld_ext (z := 0) (by simp [mkInts, h2]) (fun p p0 p1 => ?_)
      exact h3 p p0 (by omega)
theorem heldIntS (j : Int) (n : Nat) (hn : n ≤ 1048576) (hj : 0 ≤ j) (hj2 : j ≤ 1125899906842624) : Tot (fun k => laws_heldIntS.f k (mkInts j n) j) (fun r => r = j + (n : Int)) := by
  unfold laws_heldIntS.f
  have hlen : ((mkInts j n).length : Int) = n := by simp [mkInts]
  have key := trec (σ := Int) (fun i k => laws_heldIntS.l0 k (mkInts j n) (j + i) i) (fun i => ((n : Int) - i).toNat) (fun i => 0 ≤ i ∧ i ≤ (n : Int)) (fun _ r => r = j + (n : Int)) ?_ 0 ⟨Int.le_refl _, by omega⟩
  · simpa using key
  · rintro i ⟨h0, h1⟩ ih
    simp only [laws_heldIntS.l0, hlen]
    refine tite (fun c => ?_) (fun c => ?_)
    · refine tpos h0 ?_
      simp only [mkInts_at j n i h0 c]
      refine tpos (by first | trivial | rfl) ?_
      rw [wrap64_id (x := j + i + 1) (by omega) (by omega), wrap64_id (x := i + 1) (by omega) (by omega), show j + i + 1 = j + (i + 1) by omega]
      exact ih (i + 1) ⟨by omega, by omega⟩ (by (try dsimp only); omega)
    · exact tsome (by omega)

theorem toInstrument (l : List Int) (a : Int) (hl : l.length ≤ 1048576) : Tot (fun k => laws_toInstrument.f k l a) (fun r => r = (l, a)) := by
  unfold laws_toInstrument.f
  refine tbind (toIntS l hl) (fun _ e => ?_); subst e
  exact tsome rfl
theorem eqInstrument (l : List Int) (a : Int) (hl : l.length ≤ 1048576) : Tot (fun k => laws_eqInstrument.f k l a l a) (fun r => r = true) := by
  unfold laws_eqInstrument.f
  refine tbind (eqIntS l hl) (fun _ e => ?_); subst e
  exact tpos rfl (tpos rfl (tsome rfl))
theorem szInstrument (l : List Int) (a n : Int) (hn : 0 ≤ n) (hn2 : n ≤ 1048576) (hl : l.length ≤ 9223372036854775807) : laws_szInstrument.f l a n = some (if n < l.length then -1 else n - l.length) := by
  unfold laws_szInstrument.f
  rw [szIntS l n hn hn2 hl]
  simp only [Option.bind_some]
  by_cases h : n < l.length
  · simp only [if_pos h]; rw [if_pos (by omega)]
  · simp only [if_neg h]; rw [if_neg (by omega)]

theorem isPitch_eq (a : Int) : impl_isPitch.f a = some (decide (24 ≤ a ∧ a ≤ 96)) := by
  unfold impl_isPitch.f
  by_cases h : 24 ≤ a <;> simp [h]
def InC (l : List Int) (j : Int) : Prop := 24 ≤ rd l j ∧ rd l j ≤ 96 ∧ (0 < j → rd l (j - 1) < rd l j)
def InGood (l : List Int) (a : Int) : Prop := (∀ j : Int, 0 ≤ j → j < (l.length : Int) → InC l j) ∧ (1 ≤ (l.length : Int) ∧ (l.length : Int) ≤ 20 ∧ 1 ≤ a ∧ a ≤ 20)
theorem l1Rising_tot (l : List Int) (hl : l.length ≤ 1048576) : Tot (fun k => spec_l1Rising.f k l 24 96) (fun b => (b = true) ↔ ((∀ j : Int, 0 ≤ j → j < (l.length : Int) → InC l j) ∧ True)) := by
  unfold spec_l1Rising.f
  refine trec (σ := Int) (fun i k => spec_l1Rising.l0 k l 24 96 l (l.length : Int) i) (fun i => ((l.length : Int) - i).toNat) (fun i => 0 ≤ i ∧ i ≤ (l.length : Int))
    (fun i b => (b = true) ↔ ((∀ j : Int, i ≤ j → j < (l.length : Int) → InC l j) ∧ True)) ?_ 0 ⟨Int.le_refl _, by omega⟩
  rintro i ⟨h0, h1⟩ ih
  simp only [spec_l1Rising.l0, l1In_eq, Option.bind_some, decide_eq_true_eq]
  simp only [show wrap64 (i + 1) = i + 1 from wrap64_id (by omega) (by omega), show wrap64 (i - 1) = i - 1 from wrap64_id (by omega) (by omega)]
  repeat' (refine tite (fun _ => ?_) (fun _ => ?_))
  all_goals first
    | (exfalso; omega)
    | exact tsome (all_no (by omega) (by unfold InC; omega))
    | exact tmono (ih (i + 1) ⟨by omega, by omega⟩ (by (try dsimp only); omega)) (fun b hb => all_go (by omega) (by unfold InC; omega) hb)
    | exact tsome (all_end (by omega) (by simp))
theorem inGood_tot (l : List Int) (a : Int) (hl : l.length ≤ 1048576) : Tot (fun k => spec_inGood.f k l a) (fun b => (b = true) ↔ InGood l a) := by
  unfold spec_inGood.f
  simp only [l1In_eq, Option.bind_some, decide_eq_true_eq]
  refine tite (fun c => ?_) (fun c => tsome ⟨(fun h => by simp at h), (fun h => by have := h.2; omega)⟩)
  refine tbind (l1Rising_tot l hl) (fun b hb => ?_)
  refine tite (fun c2 => ?_) (fun c2 => tsome ⟨(fun h => by simp at h), (fun h => absurd (hb.2 ⟨h.1, trivial⟩) c2)⟩)
  refine tsome ?_
  have := (hb.1 c2).1
  unfold InGood
  simp only [decide_eq_true_eq]
  exact ⟨fun h => ⟨this, by omega⟩, fun h => by omega⟩
theorem isInstrument_tot (l : List Int) (a : Int) (hl : l.length ≤ 1048576) : Tot (fun k => impl_IsInstrument.f k l a) (fun b => (b = true) ↔ InGood l a) := by
  have key : 1 ≤ (l.length : Int) → (l.length : Int) ≤ 20 → 1 ≤ a → a ≤ 20 → Tot (fun k => impl_IsInstrument.l0 k l (l.length : Int) 0 l a) (fun b => (b = true) ↔ InGood l a) := by
    intro g1 g2 g3 g4
    refine tmono (trec (σ := Int) (fun i k => impl_IsInstrument.l0 k l (l.length : Int) i l a) (fun i => ((l.length : Int) - i).toNat) (fun i => 0 ≤ i ∧ i ≤ (l.length : Int))
      (fun i b => (b = true) ↔ ((∀ j : Int, i ≤ j → j < (l.length : Int) → InC l j) ∧ True)) ?_ 0 ⟨Int.le_refl _, by omega⟩) (fun b hb => ?_)
    · rintro i ⟨h0, h1⟩ ih
      simp only [impl_IsInstrument.l0, isPitch_eq, Option.bind_some, decide_eq_true_eq]
      simp only [show wrap64 (i + 1) = i + 1 from wrap64_id (by omega) (by omega), show wrap64 (i - 1) = i - 1 from wrap64_id (by omega) (by omega)]
      repeat' (refine tite (fun _ => ?_) (fun _ => ?_))
      all_goals first
        | (exfalso; omega)
        | exact tsome (all_no (by omega) (by unfold InC; omega))
        | exact tmono (ih (i + 1) ⟨by omega, by omega⟩ (by (try dsimp only); omega)) (fun b hb => all_go (by omega) (by unfold InC; omega) hb)
        | exact tsome (all_end (by omega) (by simp))
    · rw [hb]; unfold InGood
      exact ⟨fun h => ⟨h.1, g1, g2, g3, g4⟩, fun h => ⟨h.1, trivial⟩⟩
  have no : ¬ InGood l a → Tot (fun k => impl_IsInstrument.j0 k true l a) (fun b => (b = true) ↔ InGood l a) := by
    intro hn
    refine tstep ?_
    simp only [impl_IsInstrument.j0, if_true]
    exact tsome ⟨(fun h => by simp at h), (fun h => absurd h hn)⟩
  unfold impl_IsInstrument.f
  refine tite (fun c => no (fun h => by have := h.2; omega)) (fun c1 => ?_)
  refine tite (fun c => no (fun h => by have := h.2; omega)) (fun c2 => ?_)
  refine tite (fun c => no (fun h => by have := h.2; omega)) (fun c3 => ?_)
  by_cases h : a > 20
  · rw [decide_eq_true h]
    exact no (fun h => by have := h.2; omega)
  · rw [decide_eq_false h]
    refine tstep ?_
    simp only [impl_IsInstrument.j0]
    exact tneg (by simp) (key (by omega) (by omega) (by omega) (by omega))

theorem ntPitch_eq (a : Int) : spec_ntPitch.f a = some (decide (24 ≤ a ∧ a ≤ 96)) := by
  unfold spec_ntPitch.f
  simp only [l1In_eq, Option.bind_some]

def lastAt (l : List S92) (i : Int) : Nat → Int
  | 0 => -1
  | m + 1 => if (rd_T92 l m).f0 = (rd_T92 l i).f0 then m else lastAt l i m
theorem lastAt_range (l : List S92) (i : Int) (m : Nat) : -1 ≤ lastAt l i m ∧ lastAt l i m < m := by
  induction m with
  | zero => unfold lastAt; omega
  | succ m ih => unfold lastAt; split <;> omega
theorem lastAt_hit (l : List S92) (i : Int) (m : Nat) (h : 0 ≤ lastAt l i m) : (rd_T92 l (lastAt l i m)).f0 = (rd_T92 l i).f0 := by
  induction m with
  | zero => unfold lastAt at h; omega
  | succ m ih =>
    unfold lastAt at h ⊢
    split
    · rename_i c; exact c
    · rename_i c; rw [if_neg c] at h; exact ih h
theorem inLast_tot (l : List S92) (i : Int) (hl : l.length ≤ 1048576) (h0 : 0 ≤ i) (h1 : i < (l.length : Int)) : Tot (fun k => spec_inLast.f k l i) (fun r => r = lastAt l i i.toNat) := by
  unfold spec_inLast.f
  rw [wrap64_id (x := i - 1) (by omega) (by omega)]
  have key := trec (σ := Nat) (fun m k => spec_inLast.l0 k l i ((m : Int) - 1)) (fun m => m) (fun m => (m : Int) ≤ i) (fun m r => r = lastAt l i m) ?_ i.toNat (by omega)
  · rw [show ((i.toNat : Nat) : Int) - 1 = i - 1 by omega] at key
    exact key
  · intro m hm ih
    simp only [spec_inLast.l0, wrap64_id (x := (m : Int) - 1 - 1) (by omega) (by omega)]
    refine tite (fun c => ?_) (fun c => tsome (by rw [show m = 0 by omega]; rfl))
    refine tpos c (tpos (by omega) (tpos h0 (tpos h1 ?_)))
    obtain ⟨q, rfl⟩ : ∃ q, m = q + 1 := ⟨m - 1, by omega⟩
    rw [show ((q + 1 : Nat) : Int) - 1 = (q : Int) by omega]
    refine tite (fun c2 => tsome (by unfold lastAt; rw [if_pos c2])) (fun c2 => ?_)
    exact tmono (ih q (by omega) (by omega)) (fun r hr => by rw [hr]; conv => rhs; unfold lastAt; rw [if_neg c2])
def isFast (l : List S92) (rep i : Int) : Prop := 0 ≤ lastAt l i i.toNat ∧ (rd_T92 l i).f1 - (rd_T92 l (lastAt l i i.toNat)).f1 < rep
instance (l : List S92) (rep i : Int) : Decidable (isFast l rep i) := by unfold isFast; exact inferInstance
def fastUpto (l : List S92) (rep : Int) : Nat → List (List Int)
  | 0 => []
  | i + 1 => if isFast l rep i then fastUpto l rep i ++ [[lastAt l i (i : Int).toNat, (i : Int)]] else fastUpto l rep i
theorem fastUpto_len (l : List S92) (rep : Int) (i : Nat) : (fastUpto l rep i).length ≤ i := by
  induction i with
  | zero => simp [fastUpto]
  | succ i ih => unfold fastUpto; split <;> (try simp) <;> omega
def starts (l : List S92) : Prop := ∀ j : Int, 0 ≤ j → j < (l.length : Int) → 0 ≤ (rd_T92 l j).f1 ∧ (rd_T92 l j).f1 ≤ 999
theorem starts_of {l : List S92} (hg : ntGood l) : starts l := fun j h0 h1 => by
  have := (hg.1 j h0 h1).1
  unfold OkNote at this
  omega
theorem inFast_tot (l : List S92) (rep : Int) (hl : l.length ≤ 1048576) (hs : starts l) : Tot (fun k => spec_inFast.f k l rep) (fun r => r = fastUpto l rep l.length) := by
  unfold spec_inFast.f
  refine trec (σ := Nat) (fun i k => spec_inFast.l0 k l rep (fastUpto l rep i) l (l.length : Int) (i : Int)) (fun i => l.length - i) (fun i => i ≤ l.length) (fun _ r => r = fastUpto l rep l.length) ?_ 0 (Nat.zero_le _)
  intro i hi ih
  simp only [spec_inFast.l0, wrap64_id (x := (i : Int) + 1) (by omega) (by omega)]
  refine tite (fun c => ?_) (fun c => tsome (by rw [show i = l.length by omega]))
  refine tpos (by omega) (tpos c ?_)
  refine tbind (inLast_tot l i hl (by omega) c) (fun _ e => ?_); subst e
  have hr := lastAt_range l i (i : Int).toNat
  have hlen := fastUpto_len l rep i
  have go : ∀ o, o = fastUpto l rep (i + 1) → Tot (fun k => spec_inFast.l0 k l rep o l (l.length : Int) ((i : Int) + 1)) (fun r => r = fastUpto l rep l.length) := fun o e => by
    rw [e]
    have := ih (i + 1) (by omega) (by omega)
    simpa using this
  refine tite (fun c2 => ?_) (fun c2 => go _ (by conv => rhs; unfold fastUpto; rw [if_neg (fun h => c2 h.1)]))
  refine tpos c2 (tpos (by omega) ?_)
  have s1 := hs i (by omega) c
  have s2 := hs (lastAt l i (i : Int).toNat) c2 (by omega)
  rw [wrap64_id (by omega) (by omega)]
  refine tite (fun c3 => tpos (by omega) (go _ (by conv => rhs; unfold fastUpto; rw [if_pos ⟨c2, c3⟩]))) (fun c3 => go _ (by conv => rhs; unfold fastUpto; rw [if_neg (fun h => c3 h.2)]))
theorem implFast_tot (l : List S92) (rep : Int) (hl : l.length ≤ 1048576) (hs : starts l) : Tot (fun k => impl_fastRepeats.f k l rep) (fun r => r = fastUpto l rep l.length) := by
  unfold impl_fastRepeats.f
  refine trec (σ := Nat) (fun i k => impl_fastRepeats.l0 k l rep (fastUpto l rep i) l (l.length : Int) (i : Int)) (fun i => l.length - i) (fun i => i ≤ l.length) (fun _ r => r = fastUpto l rep l.length) ?_ 0 (Nat.zero_le _)
  intro i hi ih
  simp only [impl_fastRepeats.l0]
  refine tite (fun c => ?_) (fun c => tsome (by rw [show i = l.length by omega]))
  refine tpos (by omega) (tpos c ?_)
  rw [wrap64_id (x := (i : Int) - 1) (by omega) (by omega)]
  have hlen := fastUpto_len l rep i
  have go : ∀ o, o = fastUpto l rep (i + 1) → Tot (fun k => impl_fastRepeats.l0 k l rep o l (l.length : Int) ((i : Int) + 1)) (fun r => r = fastUpto l rep l.length) := fun o e => by
    rw [e]
    have := ih (i + 1) (by omega) (by omega)
    simpa using this
  have key := trec (σ := Nat) (fun m k => impl_fastRepeats.l1 k l rep (fastUpto l rep i) (i : Int) ((m : Int) - 1) l (l.length : Int) (i : Int) (rd_T92 l i).f0 (rd_T92 l i).f1 (rd_T92 l i).f2) (fun m => m) (fun m => (m : Int) ≤ i ∧ lastAt l i m = lastAt l i (i : Int).toNat) (fun _ r => r = fastUpto l rep l.length) ?_ i ⟨Int.le_refl _, by simp⟩
  · exact key
  · rintro m ⟨hm, he⟩ ihm
    simp only [impl_fastRepeats.l1, wrap64_id (x := (m : Int) - 1 - 1) (by omega) (by omega), wrap64_id (x := (i : Int) + 1) (by omega) (by omega)]
    refine tite (fun c2 => ?_) (fun c2 => ?_)
    · refine tpos c2 (tpos (by omega) ?_)
      obtain ⟨q, rfl⟩ : ∃ q, m = q + 1 := ⟨m - 1, by omega⟩
      simp only [show ((q + 1 : Nat) : Int) - 1 = (q : Int) by omega]
      refine tite (fun c3 => ?_) (fun c3 => ihm q ⟨by omega, by rw [← he]; conv => rhs; unfold lastAt; rw [if_neg c3]⟩ (by (try dsimp only); omega))
      have e : lastAt l i (i : Int).toNat = q := by rw [← he]; unfold lastAt; rw [if_pos c3]
      have s1 := hs i (by omega) c
      have s2 := hs q (by omega) (by omega)
      rw [wrap64_id (by omega) (by omega)]
      refine tite (fun c4 => tpos (by omega) (go _ (by conv => rhs; unfold fastUpto; rw [if_pos (show isFast l rep i from ⟨by omega, by rw [e]; exact c4⟩), e]))) (fun c4 => go _ (by conv => rhs; unfold fastUpto; rw [if_neg (fun h => c4 (by have := h.2; rw [e] at this; exact this))]))
    · obtain rfl : m = 0 := by omega
      exact go _ (by conv => rhs; unfold fastUpto; rw [if_neg (fun h => by have h1 := h.1; rw [← he] at h1; unfold lastAt at h1; omega)])
theorem fast_one (l : List S92) (hg : ntGood l) (rep : Int) (hr : rep ≤ 1) (i : Nat) (hi : i ≤ l.length) : fastUpto l rep i = [] := by
  induction i with
  | zero => rfl
  | succ i ih =>
    unfold fastUpto
    rw [if_neg, ih (by omega)]
    intro h
    obtain ⟨h1, h2⟩ := h
    have hrng := lastAt_range l i (i : Int).toNat
    have hh := lastAt_hit l i (i : Int).toNat h1
    have hm := (hg.1 i (by omega) (by omega)).2.2 _ h1 (by omega)
    have ho := (hg.1 _ h1 (show lastAt l i (i : Int).toNat < (l.length : Int) by omega)).1
    unfold ntMeet at hm
    unfold OkNote at ho
    omega

theorem markInstrument (l : List Int) (a j : Int) (hl : l.length ≤ 1048576) (hj : 0 ≤ j) (hj2 : j ≤ 1125899906842624) : Tot (fun k => laws_markInstrument.f k l a j) (fun r => r = (j + (l.length : Int), mkInts j l.length)) := by
  unfold laws_markInstrument.f
  refine tbind (markIntS l j hl hj hj2) (fun _ e => ?_); subst e
  exact tsome rfl

def inpl {α : Type} (f : α → α) (l : List α) (i : Nat) : List α := (l.take i).map f ++ l.drop i
theorem inpl_len {α : Type} (f : α → α) (l : List α) (i : Nat) (h : i ≤ l.length) : (inpl f l i).length = l.length := by
  unfold inpl; simp; omega
theorem inpl_zero {α : Type} (f : α → α) (l : List α) : inpl f l 0 = l := by simp [inpl]
theorem inpl_end {α : Type} (f : α → α) (l : List α) : inpl f l l.length = l.map f := by simp [inpl]
theorem inpl_at {α : Type} (z : α) (f : α → α) (l : List α) (i : Nat) (h : i < l.length) : (inpl f l i).getD i z = l.getD i z := by
  unfold inpl
  have h1 : ((l.take i).map f).length = i := by simp; omega
  rw [List.getD, List.getElem?_append_right (by omega), h1, Nat.sub_self]
  simp [List.getD, h]
theorem inpl_set {α : Type} (z : α) (f : α → α) (l : List α) (i : Nat) (h : i < l.length) : (inpl f l i).set i (f (l.getD i z)) = inpl f l (i + 1) := by
  unfold inpl
  have h1 : ((l.take i).map f).length = i := by simp; omega
  rw [List.set_append_right _ _ (by omega), h1, Nat.sub_self, List.drop_eq_getElem_cons h, List.set_cons_zero, List.take_succ_eq_append_getElem h, List.map_append, List.append_assoc]
  simp [List.getD, h]
theorem take_up {α β : Type} (z : α) (f : α → β) (l : List α) (i : Nat) (h : i < l.length) : (l.take (i + 1)).map f = (l.take i).map f ++ [f (l.getD i z)] := by
  rw [List.take_succ_eq_append_getElem h, List.map_append]
  simp [List.getD, h]

theorem inAsked_tot (p : List Int) (a : Int) (l : List S92) (hp : p.length ≤ 1048576) (hl : l.length ≤ 1048576) : Tot (fun k => spec_inAsked.f k p a l) (fun b => (b = true) ↔ (InGood p a ∧ ntGood l)) := by
  unfold spec_inAsked.f
  refine tbind (inGood_tot p a hp) (fun x hx => tite (fun c => ?_) (fun c => tsome ⟨(fun h => by simp at h), (fun h => absurd (hx.2 h.1) c)⟩))
  exact tbind (ntGood_tot l hl) (fun y hy => tsome ⟨fun h => ⟨hx.1 c, hy.1 h⟩, fun h => hy.2 h.2⟩)

theorem tlet {α β : Type} {v : α} {g : Nat → α → Option β} {Q : β → Prop} (h : Tot (fun k => g k v) Q) : Tot (fun k => (some v).bind fun y => g k y) Q := h
theorem take_drop_erase {α : Type} (l : List α) (m : Nat) : l.take m ++ l.drop (m + 1) = l.eraseIdx m := (List.eraseIdx_eq_take_drop_succ l m).symm
theorem wrapN1 (m : Nat) (h : m ≤ 1048576) : wrap64 ((m : Int) + 1) = ((m + 1 : Nat) : Int) := by rw [wrap64_id (by omega) (by omega)]; rfl
theorem erase_len {α : Type} (l : List α) (m : Nat) (h : l.length ≤ 1048576) : (l.eraseIdx m).length ≤ 1048576 := Nat.le_trans (List.length_eraseIdx_le l m) h

def sumLen : List (List Int) → Nat
  | [] => 0
  | r :: rs => r.length + sumLen rs
def mkRows (j : Int) : List (List Int) → List (List Int)
  | [] => []
  | r :: rs => mkInts j r.length :: mkRows (j + (r.length : Int)) rs
def RowsOk (l : List (List Int)) : Prop := l.length ≤ 1048576 ∧ sumLen l ≤ 4194304 ∧ ∀ r ∈ l, r.length ≤ 1048576
theorem mkRows_len (l : List (List Int)) : ∀ j, (mkRows j l).length = l.length := by
  induction l with
  | nil => intro j; rfl
  | cons r rs ih => intro j; simp [mkRows, ih]
theorem rdL3_at (pre rest : List (List Int)) (r : List Int) : rd_L3 (pre ++ r :: rest) (pre.length : Int) = r := by
  unfold rd_L3; simp
theorem markRows_go : ∀ (rest pre : List (List Int)) (j : Int), 0 ≤ j → j + (sumLen rest : Int) ≤ 1125899906842624 → (∀ r ∈ rest, r.length ≤ 1048576) → pre.length + rest.length ≤ 1048576 →
    Tot (fun k => laws_markIntSS.l0 k (pre ++ rest) j (pre.length : Int)) (fun r => r = (j + (sumLen rest : Int), pre ++ mkRows j rest))
  | [], pre, j, _, _, _, _ => by
    refine tstep ?_
    simp only [laws_markIntSS.l0]
    exact tneg (by simp) (tsome (by simp [sumLen, mkRows]))
  | r :: rs, pre, j, h0, h1, h2, h3 => by
    simp only [sumLen, List.length_cons] at h1 h3
    refine tstep ?_
    simp only [laws_markIntSS.l0, rdL3_at, wrap64_id (x := (pre.length : Int) + 1) (by omega) (by omega)]
    refine tpos (by simp; omega) (tpos (by omega) ?_)
    refine tbind (markIntS r j (h2 r (by simp)) h0 (by omega)) (fun _ e => ?_); subst e
    dsimp only
    have e : (pre ++ r :: rs).set (pre.length : Int).toNat (mkInts j r.length) = (pre ++ [mkInts j r.length]) ++ rs := by
      rw [Int.toNat_natCast, List.set_append_right _ _ (Nat.le_refl _)]
      simp
    rw [e]
    have h := markRows_go rs (pre ++ [mkInts j r.length]) (j + (r.length : Int)) (by omega) (by omega) (fun q hq => h2 q (by simp [hq])) (by simp; omega)
    have el : ((pre ++ [mkInts j r.length]).length : Int) = (pre.length : Int) + 1 := by simp
    rw [el] at h
    refine tmono h (fun y hy => ?_)
    rw [hy]
    simp [sumLen, mkRows]
    omega
theorem markRows (l : List (List Int)) (j : Int) (hr : RowsOk l) (h0 : 0 ≤ j) (h1 : j ≤ 1048576) : Tot (fun k => laws_markIntSS.f k l j) (fun r => r = (j + (sumLen l : Int), mkRows j l)) := by
  have h := markRows_go l [] j h0 (by have := hr.2.1; omega) hr.2.2 (by have := hr.1; simp; omega)
  unfold laws_markIntSS.f
  simpa using h
theorem heldRows_go : ∀ (rest pre : List (List Int)) (j : Int), 0 ≤ j → j + (sumLen rest : Int) ≤ 1125899906842624 → (∀ r ∈ rest, r.length ≤ 1048576) → pre.length + rest.length ≤ 1048576 →
    Tot (fun k => laws_heldIntSS.l0 k (pre ++ mkRows j rest) j (pre.length : Int)) (fun r => r = j + (sumLen rest : Int))
  | [], pre, j, _, _, _, _ => by
    refine tstep ?_
    simp only [laws_heldIntSS.l0]
    exact tneg (by simp [mkRows]) (tsome (by simp [sumLen]))
  | r :: rs, pre, j, h0, h1, h2, h3 => by
    simp only [sumLen, List.length_cons] at h1 h3
    refine tstep ?_
    simp only [mkRows, laws_heldIntSS.l0, rdL3_at, wrap64_id (x := (pre.length : Int) + 1) (by omega) (by omega)]
    refine tpos (by simp; omega) (tpos (by omega) ?_)
    refine tbind (heldIntS j r.length (h2 r (by simp)) h0 (by omega)) (fun _ e => ?_); subst e
    refine tneg (by omega) ?_
    have h := heldRows_go rs (pre ++ [mkInts j r.length]) (j + (r.length : Int)) (by omega) (by omega) (fun q hq => h2 q (by simp [hq])) (by simp; omega)
    have el : ((pre ++ [mkInts j r.length]).length : Int) = (pre.length : Int) + 1 := by simp
    rw [el, List.append_assoc, List.singleton_append] at h
    refine tmono h (fun y hy => ?_)
    rw [hy]
    simp only [sumLen]
    omega
theorem heldRows (l : List (List Int)) (j : Int) (hr : RowsOk l) (h0 : 0 ≤ j) (h1 : j ≤ 1048576) : Tot (fun k => laws_heldIntSS.f k (mkRows j l) j) (fun r => r = j + (sumLen l : Int)) := by
  have h := heldRows_go l [] j h0 (by have := hr.2.1; omega) hr.2.2 (by have := hr.1; simp; omega)
  unfold laws_heldIntSS.f
  simpa using h
theorem eqIntSS (l : List (List Int)) (hr : RowsOk l) : Tot (fun k => laws_eqIntSS.f k l l) (fun r => r = true) := by
  have hl := hr.1
  unfold laws_eqIntSS.f
  refine tpos rfl ?_
  refine trec (σ := Int) (fun i k => laws_eqIntSS.l0 k l l i) (fun i => ((l.length : Int) - i).toNat) (fun i => 0 ≤ i ∧ i ≤ (l.length : Int)) (fun _ r => r = true) ?_ 0 ⟨Int.le_refl _, by omega⟩
  rintro i ⟨h0, h1⟩ ih
  simp only [laws_eqIntSS.l0]
  refine tite (fun c => ?_) (fun c => tsome rfl)
  refine tpos h0 (tpos (by omega) ?_)
  refine tbind (eqIntS (rd_L3 l i) (hr.2.2 _ (by unfold rd_L3; exact ld_mem i c h0))) (fun _ e => ?_); subst e
  rw [wrap64_id (by omega) (by omega)]
  exact tpos rfl (ih (i + 1) ⟨by omega, by omega⟩ (by (try dsimp only); omega))

theorem fastUpto_ok (l : List S92) (rep : Int) (i : Nat) : sumLen (fastUpto l rep i) ≤ 2 * i ∧ ∀ r ∈ fastUpto l rep i, r.length ≤ 1048576 := by
  have app : ∀ (a : List (List Int)) (r : List Int), sumLen (a ++ [r]) = sumLen a + r.length := by
    intro a r
    induction a with
    | nil => simp [sumLen]
    | cons x xs ih => simp only [List.cons_append, sumLen, ih]; omega
  induction i with
  | zero => exact ⟨by simp [fastUpto, sumLen], fun r hr => by simp [fastUpto] at hr⟩
  | succ i ih =>
    unfold fastUpto
    split
    · refine ⟨by rw [app]; simp; omega, fun r hr => ?_⟩
      rcases List.mem_append.1 hr with h | h
      · exact ih.2 r h
      · rw [List.mem_singleton.1 h]; simp
    · exact ⟨by omega, ih.2⟩
theorem fastRepeats_agree (p : List Int) (a : Int) (l : List S92) (hp : p.length ≤ 1048576) (hl : l.length ≤ 1048576) : ∃ r, Tot (fun k => spec_FastRepeats.f k p a l) (fun y => y = r) ∧ Tot (fun k => impl_FastRepeats.f k p a l) (fun y => y = r) ∧ RowsOk r.1 := by
  by_cases hg : InGood p a ∧ ntGood l
  · refine ⟨(fastUpto l a l.length, true), ?_, ?_, ?_⟩
    · unfold spec_FastRepeats.f
      refine tbind (inAsked_tot p a l hp hl) (fun x hx => tpos (hx.2 hg) ?_)
      exact tbind (inFast_tot l a hl (starts_of hg.2)) (fun _ e => by subst e; exact tsome rfl)
    · unfold impl_FastRepeats.f
      refine tbind (isInstrument_tot p a hp) (fun x hx => tpos (hx.2 hg.1) ?_)
      refine tbind (isScore_tot l hl) (fun y hy => tpos (hy.2 hg.2) ?_)
      exact tbind (implFast_tot l a hl (starts_of hg.2)) (fun _ e => by subst e; exact tsome rfl)
    · have h1 := fastUpto_len l a l.length
      have h2 := fastUpto_ok l a l.length
      exact ⟨by dsimp only; omega, by dsimp only; omega, h2.2⟩
  · refine ⟨([], false), ?_, ?_, ⟨by simp, by simp [sumLen], by simp⟩⟩
    · unfold spec_FastRepeats.f
      exact tbind (inAsked_tot p a l hp hl) (fun x hx => tneg (fun h => hg (hx.1 h)) (tsome rfl))
    · unfold impl_FastRepeats.f
      refine tbind (isInstrument_tot p a hp) (fun x hx => tite (fun c => ?_) (fun c => tsome rfl))
      exact tbind (isScore_tot l hl) (fun y hy => tneg (fun h => hg ⟨hx.1 c, hy.1 h⟩) (tsome rfl))


theorem FnExactFastRepeats (l0_0 : List Int) (a0_1 : Int) (l1 : List (S94)) (hm0_0 : l0_0.length ≤ 9223372036854775807) (hw0_0 : ∀ y ∈ l0_0, Glue.wf64 y) (w0_1 : Glue.wf64 a0_1) (hm1 : l1.length ≤ 9223372036854775807) (hw1 : ∀ y ∈ l1, Glue.wf64 y.f0 ∧ Glue.wf64 y.f1 ∧ Glue.wf64 y.f2) : ∃ k, laws_FnExactFastRepeats.f k l0_0 a0_1 l1 = some true := by
  refine rounds ?_
  unfold laws_FnExactFastRepeats.f
  rw [szInstrument l0_0 a0_1 (1048576 : Int) (by omega) (by omega) hm0_0]
  simp only [Option.bind_some]
  by_cases hl0 : (1048576 : Int) < (l0_0.length : Int)
  · simp only [if_pos hl0]; exact tpos (by omega) (tsome rfl)
  simp only [if_neg hl0]
  refine tneg (by omega) ?_
  rw [szNoteS l1 ((1048576 : Int) - (l0_0.length : Int)) (by omega) (by omega) hm1]
  simp only [Option.bind_some]
  by_cases hl1 : ((1048576 : Int) - (l0_0.length : Int)) < (l1.length : Int)
  · simp only [if_pos hl1]; exact tpos (by omega) (tsome rfl)
  simp only [if_neg hl1]
  refine tneg (by omega) ?_
  obtain ⟨r, hS, hI, hR⟩ := fastRepeats_agree l0_0 a0_1 (l1.map cvNote) (by omega) (by simp; omega)
  repeat first
    | exact tsome rfl
    | (refine tbind hS (fun _ e => ?_); subst e)
    | (refine tbind hI (fun _ e => ?_); subst e)
    | (refine tbind (toInstrument l0_0 a0_1 (by omega)) (fun _ e => ?_); subst e)
    | (refine tbind (eqInstrument _ _ (by first | omega | (dsimp only; omega) | (simp; omega) | assumption)) (fun _ e => ?_); subst e)
    | (refine tbind (toNoteS l1 (by omega)) (fun _ e => ?_); subst e)
    | (refine tbind (eqNoteS _ (by first | omega | (dsimp only; omega) | (simp; omega) | assumption)) (fun _ e => ?_); subst e)
    | (refine tbind (eqIntSS _ hR) (fun _ e => ?_); subst e)
    | (refine tbind (markRows _ 1 hR (by omega) (by omega)) (fun _ e => ?_); subst e)
    | (refine tbind (heldRows _ 1 hR (by omega) (by omega)) (fun _ e => ?_); subst e)
    | (refine tbind (markInstrument _ _ _ (by first | omega | (simp; omega)) (by first | omega | (dsimp only; omega)) (by first | omega | (dsimp only; omega))) (fun _ e => ?_); subst e)
    | (refine tbind (markNoteS _ _ (by first | omega | (simp; omega)) (by omega) (by omega)) (fun _ e => ?_); subst e)
    | refine tpos rfl ?_
    | refine tneg (by dsimp only; omega) ?_
    | refine tneg (by omega) ?_
    | refine tneg (by simp; done) ?_
    | refine tpos (by dsimp only) ?_
    | (refine tstep ?_; simp only [laws_FnExactFastRepeats.j0])
    | (refine tstep ?_; simp only [laws_FnExactFastRepeats.j1])
    | (refine tstep ?_; simp only [laws_FnExactFastRepeats.j2])
end Go.Proofs.Ytjgpngeifgcidaa.Pure
