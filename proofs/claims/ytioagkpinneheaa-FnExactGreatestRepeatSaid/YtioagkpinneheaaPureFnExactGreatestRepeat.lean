/- The plain side of the law FnExactGreatestRepeat: lists and numbers alone. -/
import Derived.Test.YtioagkpinneheaaPFnExactGreatestRepeatx5
import Derived.Test.YtioagkpinneheaaGlue
import Derived.Test.YtioagkpinneheaaTot
set_option linter.unusedVariables false
set_option linter.unusedSimpArgs false
namespace Go.Proofs.Ytioagkpinneheaa.Pure
open Go.RowKit Go.Proofs.Ytioagkpinneheaa.PFnExactGreatestRepeat Go.Proofs.YtioagkpinneheaaW.PrintWords Go.Proofs.YtioagkpinneheaaW.PrintMore Go.Proofs.Ytioagkpinneheaa.Tot

theorem l1In_eq (a b c : Int) : spec_l1In.f a b c = some (decide (b ≤ a ∧ a ≤ c)) := by
  unfold spec_l1In.f
  by_cases h : b ≤ a <;> simp [h]

def cvNote (x : S96) : S93 := ⟨x.f0, x.f1, x.f2⟩
theorem toNoteS (l : List S96) (hl : l.length ≤ 1048576) : Tot (fun k => laws_toNoteS.f k l) (fun r => r = l.map cvNote) := by
  unfold laws_toNoteS.f
  refine tpos (by omega) (tpos (by omega) ?_)
  have key := trec (σ := List S93 × Int) (fun s k => laws_toNoteS.l0 k l s.1 s.2) (fun s => ((l.length : Int) - s.2).toNat)
    (fun s => 0 ≤ s.2 ∧ s.2 ≤ (l.length : Int) ∧ s.1.length = l.length ∧ ∀ j : Int, 0 ≤ j → j < s.2 → s.1.getD j.toNat z93 = cvNote (l.getD j.toNat z96)) (fun _ r => r = l.map cvNote) ?_
  · exact key (List.replicate (l.length : Int).toNat z93, 0) ⟨Int.le_refl _, by dsimp only; omega, by simp, fun j h0 h1 => by dsimp only at h1; omega⟩
  · rintro ⟨ys, i⟩ ⟨h0, h1, h2, h3⟩ ih
    dsimp only at h0 h1 h2 h3
    simp only [laws_toNoteS.l0, laws_toNote.f, Option.bind_some]
    refine tite (fun c => ?_) (fun c => ?_)
    · refine tpos h0 (tpos (by omega) ?_)
      rw [wrap64_id (by omega) (by omega)]
      refine ih (_, i + 1) ⟨by dsimp only; omega, by dsimp only; omega, by simp [h2], ?_⟩ (by dsimp only; omega)
      intro j hj0 hj1
      dsimp only at hj1 ⊢
      by_cases e : j = i
      · subst e; rw [ld_set_self _ _ (by omega) hj0]; rfl
      · rw [ld_set_ne _ _ _ h0 hj0 (by omega)]; exact h3 j hj0 (by omega)
    · exact tsome (write_end h2 (fun j a b => h3 j a (by omega)))

theorem eqNoteS (l : List S93) (hl : l.length ≤ 1048576) : Tot (fun k => laws_eqNoteS.f k l l) (fun r => r = true) := by
  unfold laws_eqNoteS.f
  refine tpos rfl ?_
  refine trec (σ := Int) (fun i k => laws_eqNoteS.l0 k l l i) (fun i => ((l.length : Int) - i).toNat) (fun i => 0 ≤ i ∧ i ≤ (l.length : Int)) (fun _ r => r = true) ?_ 0 ⟨Int.le_refl _, by omega⟩
  rintro i ⟨h0, h1⟩ ih
  simp only [laws_eqNoteS.l0, laws_eqNote.f, if_true, Option.bind_some]
  refine tite (fun c => ?_) (fun c => tsome rfl)
  refine tpos h0 (tpos (by omega) ?_)
  rw [wrap64_id (by omega) (by omega)]
  exact ih (i + 1) ⟨by omega, by omega⟩ (by (try dsimp only); omega)

theorem szNoteS (l : List S96) (n : Int) (hn : 0 ≤ n) (hn2 : n ≤ 1048576) (hl : l.length ≤ 9223372036854775807) : laws_szNoteS.f l n = some (if n < l.length then -1 else n - l.length) := by
  unfold laws_szNoteS.f
  simp (disch := omega) only [wrap64_id]
  by_cases h : n < l.length
  · rw [if_pos (by omega), if_pos h]
  · rw [if_neg (by omega), if_neg h]

abbrev OkNote (a b c : Int) : Prop := 24 ≤ a ∧ a ≤ 96 ∧ 0 ≤ b ∧ b ≤ 999 ∧ 1 ≤ c ∧ c ≤ 99
theorem ntNote_eq (a b c : Int) : spec_ntNote.f a b c = some (decide (OkNote a b c)) := by
  unfold spec_ntNote.f spec_ntPitch.f OkNote
  simp only [l1In_eq, Option.bind_some, decide_eq_true_eq]
  split
  · split
    · congr 1; rw [Bool.eq_iff_iff]; simp only [decide_eq_true_eq]; omega
    · congr 1; rw [Bool.eq_iff_iff]; simp only [decide_eq_true_eq]; simp; omega
  · congr 1; rw [Bool.eq_iff_iff]; simp only [decide_eq_true_eq]; simp; omega
theorem implIsNote_eq (a b c : Int) : impl_IsNote.f a b c = some (decide (OkNote a b c)) := by
  unfold impl_IsNote.f OkNote
  by_cases h1 : 24 ≤ a <;> by_cases h2 : a ≤ 96 <;> by_cases h3 : 0 ≤ b <;> by_cases h4 : b ≤ 999 <;> by_cases h5 : 1 ≤ c <;> simp [h1, h2, h3, h4, h5] <;> omega

def ntLess (x y : S93) : Prop := x.f1 < y.f1 ∨ (x.f1 = y.f1 ∧ x.f0 < y.f0)
def ntMeet (x y : S93) : Prop := x.f0 = y.f0 ∧ y.f1 < x.f1 + x.f2
def ntA (l : List S93) (j : Int) : Prop := OkNote (rd_T93 l j).f0 (rd_T93 l j).f1 (rd_T93 l j).f2 ∧ (0 < j → ntLess (rd_T93 l (j - 1)) (rd_T93 l j))
def ntC (l : List S93) (j : Int) : Prop := OkNote (rd_T93 l j).f0 (rd_T93 l j).f1 (rd_T93 l j).f2 ∧ (0 < j → ntLess (rd_T93 l (j - 1)) (rd_T93 l j)) ∧ (∀ p : Int, 0 ≤ p → p < j → ¬ ntMeet (rd_T93 l p) (rd_T93 l j))
theorem nt_take (l : List S93) (i p : Int) (h0 : 0 ≤ p) (h : p < i) : rd_T93 (l.take i.toNat) p = rd_T93 l p := by
  unfold rd_T93
  exact ld_take i.toNat p h0 (by omega)
theorem nt_start (l : List S93) (i : Int) (hp : ∀ j : Int, 0 ≤ j → j < i → ntC l j) (hi : 0 < i → ntLess (rd_T93 l (i - 1)) (rd_T93 l i)) (p : Int) (p0 : 0 ≤ p) (p1 : p < i) : (rd_T93 l p).f1 ≤ (rd_T93 l i).f1 := by
  have key : ∀ (d : Nat) (j : Int), j = p + d → j ≤ i → (rd_T93 l p).f1 ≤ (rd_T93 l j).f1 := by
    intro d
    induction d with
    | zero => intro j e _; rw [show j = p by omega]; exact Int.le_refl _
    | succ d ih =>
      intro j e h
      have h1 := ih (j - 1) (by omega) (by omega)
      have h2 : ntLess (rd_T93 l (j - 1)) (rd_T93 l j) := by
        by_cases e2 : j = i
        · rw [e2]; exact hi (by omega)
        · exact (hp j (by omega) (by omega)).2.1 (by omega)
      unfold ntLess at h2
      omega
  exact key (i - p).toNat i (by omega) (Int.le_refl _)

def ntGood (l : List S93) : Prop := (∀ j : Int, 0 ≤ j → j < (l.length : Int) → ntC l j) ∧ (l.length : Int) ≤ 30
theorem ntBefore_eq (a b c d e f : Int) : spec_ntBefore.f a b c d e f = some (decide (b < e ∨ (b = e ∧ a < d))) := by
  unfold spec_ntBefore.f
  by_cases h1 : b < e <;> by_cases h2 : b = e <;> simp [h1, h2]
theorem noteLess_eq (a b c d e f : Int) : impl_noteLess.f a b c d e f = some (decide (b < e ∨ (b = e ∧ a < d))) := by
  unfold impl_noteLess.f
  by_cases h2 : b = e
  · subst h2; simp
  · simp [h2]
theorem ntMeet_eq (a b c d e f : Int) (h : OkNote a b c) (g : OkNote d e f) : spec_ntMeet.f a b c d e f = some (decide (a = d ∧ b < e + f ∧ e < b + c)) := by
  unfold spec_ntMeet.f
  unfold OkNote at h g
  rw [wrap64_id (x := e + f) (by omega) (by omega), wrap64_id (x := b + c) (by omega) (by omega)]
  by_cases h1 : a = d <;> by_cases h2 : b < e + f <;> simp [h1, h2]
theorem noteEnd_eq (a b c : Int) (h : OkNote a b c) : impl_noteEnd.f a b c = some (b + c) := by
  unfold impl_noteEnd.f
  unfold OkNote at h
  rw [wrap64_id (by omega) (by omega)]

theorem nt_spec_ntGood_loop (l : List S93) (hl : l.length ≤ 1048576) : Tot (fun k => spec_ntGood.l0 k l l (l.length : Int) 0) (fun b => (b = true) ↔ ((∀ j : Int, 0 ≤ j → j < (l.length : Int) → ntC l j) ∧ (l.length : Int) ≤ 30)) := by
  refine trec (σ := Int) (fun i k => spec_ntGood.l0 k l l (l.length : Int) i) (fun i => ((l.length : Int) - i).toNat) (fun i => 0 ≤ i ∧ i ≤ (l.length : Int) ∧ ∀ j : Int, 0 ≤ j → j < i → ntC l j)
    (fun i b => (b = true) ↔ ((∀ j : Int, i ≤ j → j < (l.length : Int) → ntC l j) ∧ (l.length : Int) ≤ 30)) ?_ 0 ⟨Int.le_refl _, by omega, fun j a b => by omega⟩
  rintro i ⟨h0, h1, hp⟩ ih
  have hno : i < (l.length : Int) → ¬ ntC l i → Tot (fun _ => some false) (fun b => (b = true) ↔ ((∀ j : Int, i ≤ j → j < (l.length : Int) → ntC l j) ∧ (l.length : Int) ≤ 30)) := fun a b => tsome (all_no a b)
  have hjT : i < (l.length : Int) → ¬ ntA l i → Tot (fun k => spec_ntGood.j1 k l i l (l.length : Int) i true (rd_T93 l i).f0 (rd_T93 l i).f1 (rd_T93 l i).f2) (fun b => (b = true) ↔ ((∀ j : Int, i ≤ j → j < (l.length : Int) → ntC l j) ∧ (l.length : Int) ≤ 30)) := by
    intro a b
    refine tstep ?_
    simp only [spec_ntGood.j1, if_true]
    exact hno a (fun h => b ⟨h.1, h.2.1⟩)
  have hjF : i < (l.length : Int) → ntA l i → Tot (fun k => spec_ntGood.j1 k l i l (l.length : Int) i false (rd_T93 l i).f0 (rd_T93 l i).f1 (rd_T93 l i).f2) (fun b => (b = true) ↔ ((∀ j : Int, i ≤ j → j < (l.length : Int) → ntC l j) ∧ (l.length : Int) ≤ 30)) := by
    intro a hA
    refine tstep ?_
    simp only [spec_ntGood.j1, Option.bind_some]
    refine tneg (by simp) (tpos h0 (tpos h1 ?_))
    have hlen : ((l.take i.toNat).length : Int) = i := by simp; omega
    rw [hlen]
    refine trec (σ := Int) (fun p k => spec_ntGood.l1 k l l (l.length : Int) i (l.take i.toNat) i p (rd_T93 l i).f0 (rd_T93 l i).f1 (rd_T93 l i).f2) (fun p => (i - p).toNat) (fun p => 0 ≤ p ∧ p ≤ i ∧ ∀ q : Int, 0 ≤ q → q < p → ¬ ntMeet (rd_T93 l q) (rd_T93 l i))
      (fun _ => (fun b => (b = true) ↔ ((∀ j : Int, i ≤ j → j < (l.length : Int) → ntC l j) ∧ (l.length : Int) ≤ 30))) ?_ 0 ⟨Int.le_refl _, h0, fun q a b => by omega⟩
    rintro p ⟨p0, p1, pq⟩ ihp
    simp only [spec_ntGood.l1, hlen, wrap64_id (show -9223372036854775808 ≤ i + 1 by omega) (by omega), wrap64_id (show -9223372036854775808 ≤ p + 1 by omega) (by omega)]
    refine tite (fun c => ?_) (fun c => ?_)
    · refine tpos p0 (tpos c ?_)
      simp only [nt_take l i p p0 c]
      have hs := nt_start l i hp hA.2 p p0 c
      have o1 := (hp p p0 c).1
      have o2 := hA.1
      simp only [ntMeet_eq _ _ _ _ _ _ o2 o1, Option.bind_some, decide_eq_true_eq]
      unfold OkNote at o1 o2
      have go : ¬ ntMeet (rd_T93 l p) (rd_T93 l i) → Tot (fun k => spec_ntGood.l1 k l l (l.length : Int) i (l.take i.toNat) i (p + 1) (rd_T93 l i).f0 (rd_T93 l i).f1 (rd_T93 l i).f2) (fun b => (b = true) ↔ ((∀ j : Int, i ≤ j → j < (l.length : Int) → ntC l j) ∧ (l.length : Int) ≤ 30)) := fun hm =>
        ihp (p + 1) ⟨by omega, by omega, fun q q0 q1 => by
          by_cases e : q = p
          · rw [e]; exact hm
          · exact pq q q0 (by omega)⟩ (by (try dsimp only); omega)
      repeat' (refine tite (fun _ => ?_) (fun _ => ?_))
      all_goals first
        | exact go (by unfold ntMeet; omega)
        | exact hno a (fun h => h.2.2 p p0 c (by unfold ntMeet; omega))
    · have Ci : ntC l i := ⟨hA.1, hA.2, fun q q0 q1 => pq q q0 (by omega)⟩
      exact tmono (ih (i + 1) ⟨by omega, by omega, fun j j0 j1 => by
        by_cases e : j = i
        · rw [e]; exact Ci
        · exact hp j j0 (by omega)⟩ (by (try dsimp only); omega)) (fun b hb => all_go a Ci hb)
  simp only [spec_ntGood.l0, ntNote_eq, ntBefore_eq, Option.bind_some, decide_eq_true_eq]
  simp only [show wrap64 (i - 1) = i - 1 from wrap64_id (by omega) (by omega)]
  by_cases hL : ntLess (rd_T93 l (i - 1)) (rd_T93 l i)
  all_goals
    have hL2 := hL
    unfold ntLess at hL2
    simp only [hL2, decide_true, decide_false, Bool.not_true, Bool.not_false]
    repeat' (refine tite (fun _ => ?_) (fun _ => ?_))
    all_goals first
      | (exfalso; omega)
      | exact hjF (by omega) ⟨by assumption, fun _ => hL⟩
      | exact hjF (by omega) ⟨by assumption, fun h => absurd h (by omega)⟩
      | exact hjT (by omega) (fun h => absurd h.1 (by assumption))
      | exact hjT (by omega) (fun h => absurd (h.2 (by omega)) hL)
      | exact tsome (all_end (by omega) (by simp only [decide_eq_true_eq]))

theorem nt_impl_IsScore_loop (l : List S93) (hl : l.length ≤ 1048576) : Tot (fun k => impl_IsScore.l0 k l l (l.length : Int) 0) (fun b => (b = true) ↔ ((∀ j : Int, 0 ≤ j → j < (l.length : Int) → ntC l j) ∧ True)) := by
  refine trec (σ := Int) (fun i k => impl_IsScore.l0 k l l (l.length : Int) i) (fun i => ((l.length : Int) - i).toNat) (fun i => 0 ≤ i ∧ i ≤ (l.length : Int) ∧ ∀ j : Int, 0 ≤ j → j < i → ntC l j)
    (fun i b => (b = true) ↔ ((∀ j : Int, i ≤ j → j < (l.length : Int) → ntC l j) ∧ True)) ?_ 0 ⟨Int.le_refl _, by omega, fun j a b => by omega⟩
  rintro i ⟨h0, h1, hp⟩ ih
  have hno : i < (l.length : Int) → ¬ ntC l i → Tot (fun _ => some false) (fun b => (b = true) ↔ ((∀ j : Int, i ≤ j → j < (l.length : Int) → ntC l j) ∧ True)) := fun a b => tsome (all_no a b)
  have hjT : i < (l.length : Int) → ¬ ntA l i → Tot (fun k => impl_IsScore.j1 k l i l (l.length : Int) i true (rd_T93 l i).f0 (rd_T93 l i).f1 (rd_T93 l i).f2) (fun b => (b = true) ↔ ((∀ j : Int, i ≤ j → j < (l.length : Int) → ntC l j) ∧ True)) := by
    intro a b
    refine tstep ?_
    simp only [impl_IsScore.j1, if_true]
    exact hno a (fun h => b ⟨h.1, h.2.1⟩)
  have hjF : i < (l.length : Int) → ntA l i → Tot (fun k => impl_IsScore.j1 k l i l (l.length : Int) i false (rd_T93 l i).f0 (rd_T93 l i).f1 (rd_T93 l i).f2) (fun b => (b = true) ↔ ((∀ j : Int, i ≤ j → j < (l.length : Int) → ntC l j) ∧ True)) := by
    intro a hA
    refine tstep ?_
    simp only [impl_IsScore.j1, Option.bind_some]
    refine tneg (by simp) (tpos h0 (tpos h1 ?_))
    have hlen : ((l.take i.toNat).length : Int) = i := by simp; omega
    rw [hlen]
    refine trec (σ := Int) (fun p k => impl_IsScore.l1 k l l (l.length : Int) i (l.take i.toNat) i p (rd_T93 l i).f0 (rd_T93 l i).f1 (rd_T93 l i).f2) (fun p => (i - p).toNat) (fun p => 0 ≤ p ∧ p ≤ i ∧ ∀ q : Int, 0 ≤ q → q < p → ¬ ntMeet (rd_T93 l q) (rd_T93 l i))
      (fun _ => (fun b => (b = true) ↔ ((∀ j : Int, i ≤ j → j < (l.length : Int) → ntC l j) ∧ True))) ?_ 0 ⟨Int.le_refl _, h0, fun q a b => by omega⟩
    rintro p ⟨p0, p1, pq⟩ ihp
    simp only [impl_IsScore.l1, hlen, wrap64_id (show -9223372036854775808 ≤ i + 1 by omega) (by omega), wrap64_id (show -9223372036854775808 ≤ p + 1 by omega) (by omega)]
    refine tite (fun c => ?_) (fun c => ?_)
    · refine tpos p0 (tpos c ?_)
      simp only [nt_take l i p p0 c]
      have hs := nt_start l i hp hA.2 p p0 c
      have o1 := (hp p p0 c).1
      have o2 := hA.1
      simp only [noteEnd_eq _ _ _ o1, Option.bind_some]
      unfold OkNote at o1 o2
      have go : ¬ ntMeet (rd_T93 l p) (rd_T93 l i) → Tot (fun k => impl_IsScore.l1 k l l (l.length : Int) i (l.take i.toNat) i (p + 1) (rd_T93 l i).f0 (rd_T93 l i).f1 (rd_T93 l i).f2) (fun b => (b = true) ↔ ((∀ j : Int, i ≤ j → j < (l.length : Int) → ntC l j) ∧ True)) := fun hm =>
        ihp (p + 1) ⟨by omega, by omega, fun q q0 q1 => by
          by_cases e : q = p
          · rw [e]; exact hm
          · exact pq q q0 (by omega)⟩ (by (try dsimp only); omega)
      repeat' (refine tite (fun _ => ?_) (fun _ => ?_))
      all_goals first
        | exact go (by unfold ntMeet; omega)
        | exact hno a (fun h => h.2.2 p p0 c (by unfold ntMeet; omega))
    · have Ci : ntC l i := ⟨hA.1, hA.2, fun q q0 q1 => pq q q0 (by omega)⟩
      exact tmono (ih (i + 1) ⟨by omega, by omega, fun j j0 j1 => by
        by_cases e : j = i
        · rw [e]; exact Ci
        · exact hp j j0 (by omega)⟩ (by (try dsimp only); omega)) (fun b hb => all_go a Ci hb)
  simp only [impl_IsScore.l0, implIsNote_eq, noteLess_eq, Option.bind_some, decide_eq_true_eq]
  simp only [show wrap64 (i - 1) = i - 1 from wrap64_id (by omega) (by omega)]
  by_cases hL : ntLess (rd_T93 l (i - 1)) (rd_T93 l i)
  all_goals
    have hL2 := hL
    unfold ntLess at hL2
    simp only [hL2, decide_true, decide_false, Bool.not_true, Bool.not_false]
    repeat' (refine tite (fun _ => ?_) (fun _ => ?_))
    all_goals first
      | (exfalso; omega)
      | exact hjF (by omega) ⟨by assumption, fun _ => hL⟩
      | exact hjF (by omega) ⟨by assumption, fun h => absurd h (by omega)⟩
      | exact hjT (by omega) (fun h => absurd h.1 (by assumption))
      | exact hjT (by omega) (fun h => absurd (h.2 (by omega)) hL)
      | exact tsome (all_end (by omega) (by simp))

theorem ntGood_tot (l : List S93) (hl : l.length ≤ 1048576) : Tot (fun k => spec_ntGood.f k l) (fun b => (b = true) ↔ ntGood l) := by
  unfold spec_ntGood.f
  exact nt_spec_ntGood_loop l hl
theorem isScore_tot (l : List S93) (hl : l.length ≤ 1048576) : Tot (fun k => impl_IsScore.f k l) (fun b => (b = true) ↔ ntGood l) := by
  unfold impl_IsScore.f ntGood
  refine tite (fun c => tsome ⟨(fun h => by simp at h), (fun h => by have := h.2; omega)⟩) (fun c => ?_)
  refine tmono (nt_impl_IsScore_loop l hl) (fun b hb => ?_)
  rw [hb]
  exact ⟨fun h => ⟨h.1, by omega⟩, fun h => ⟨h.1, trivial⟩⟩

theorem ntPitch_eq (a : Int) : spec_ntPitch.f a = some (decide (24 ≤ a ∧ a ≤ 96)) := by
  unfold spec_ntPitch.f
  simp only [l1In_eq, Option.bind_some]

def lastAt (l : List S93) (i : Int) : Nat → Int
  | 0 => -1
  | m + 1 => if (rd_T93 l m).f0 = (rd_T93 l i).f0 then m else lastAt l i m
theorem lastAt_range (l : List S93) (i : Int) (m : Nat) : -1 ≤ lastAt l i m ∧ lastAt l i m < m := by
  induction m with
  | zero => unfold lastAt; omega
  | succ m ih => unfold lastAt; split <;> omega
theorem lastAt_hit (l : List S93) (i : Int) (m : Nat) (h : 0 ≤ lastAt l i m) : (rd_T93 l (lastAt l i m)).f0 = (rd_T93 l i).f0 := by
  induction m with
  | zero => unfold lastAt at h; omega
  | succ m ih =>
    unfold lastAt at h ⊢
    split
    · rename_i c; exact c
    · rename_i c; rw [if_neg c] at h; exact ih h
theorem inLast_tot (l : List S93) (i : Int) (hl : l.length ≤ 1048576) (h0 : 0 ≤ i) (h1 : i < (l.length : Int)) : Tot (fun k => spec_inLast.f k l i) (fun r => r = lastAt l i i.toNat) := by
  unfold spec_inLast.f
  rw [wrap64_id (x := i - 1) (by omega) (by omega)]
  have key := trec (σ := Nat) (fun m k => spec_inLast.l0 k l i ((m : Int) - 1)) (fun m => m) (fun m => (m : Int) ≤ i) (fun m r => r = lastAt l i m) ?_ i.toNat (by omega)
  · rw [show ((i.toNat : Nat) : Int) - 1 = i - 1 by omega] at key
    exact key
  · intro m hm ih
    simp only [spec_inLast.l0, wrap64_id (x := (m : Int) - 1 - 1) (by omega) (by omega)]
    refine tite (fun c => ?_) (fun c => tsome (by rw [show m = 0 by omega]; rfl))
    refine tpos c (tpos (by omega) (tpos h0 (tpos h1 ?_)))
    obtain ⟨q, rfl⟩ : ∃ q, m = q + 1 := ⟨m - 1, by omega⟩
    rw [show ((q + 1 : Nat) : Int) - 1 = (q : Int) by omega]
    refine tite (fun c2 => tsome (by unfold lastAt; rw [if_pos c2])) (fun c2 => ?_)
    exact tmono (ih q (by omega) (by omega)) (fun r hr => by rw [hr]; conv => rhs; unfold lastAt; rw [if_neg c2])
def isFast (l : List S93) (rep i : Int) : Prop := 0 ≤ lastAt l i i.toNat ∧ (rd_T93 l i).f1 - (rd_T93 l (lastAt l i i.toNat)).f1 < rep
instance (l : List S93) (rep i : Int) : Decidable (isFast l rep i) := by unfold isFast; exact inferInstance
def fastUpto (l : List S93) (rep : Int) : Nat → List (List Int)
  | 0 => []
  | i + 1 => if isFast l rep i then fastUpto l rep i ++ [[lastAt l i (i : Int).toNat, (i : Int)]] else fastUpto l rep i
theorem fastUpto_len (l : List S93) (rep : Int) (i : Nat) : (fastUpto l rep i).length ≤ i := by
  induction i with
  | zero => simp [fastUpto]
  | succ i ih => unfold fastUpto; split <;> (try simp) <;> omega
def starts (l : List S93) : Prop := ∀ j : Int, 0 ≤ j → j < (l.length : Int) → 0 ≤ (rd_T93 l j).f1 ∧ (rd_T93 l j).f1 ≤ 999
theorem starts_of {l : List S93} (hg : ntGood l) : starts l := fun j h0 h1 => by
  have := (hg.1 j h0 h1).1
  unfold OkNote at this
  omega
theorem inFast_tot (l : List S93) (rep : Int) (hl : l.length ≤ 1048576) (hs : starts l) : Tot (fun k => spec_inFast.f k l rep) (fun r => r = fastUpto l rep l.length) := by
  unfold spec_inFast.f
  refine trec (σ := Nat) (fun i k => spec_inFast.l0 k l rep (fastUpto l rep i) l (l.length : Int) (i : Int)) (fun i => l.length - i) (fun i => i ≤ l.length) (fun _ r => r = fastUpto l rep l.length) ?_ 0 (Nat.zero_le _)
  intro i hi ih
  simp only [spec_inFast.l0, wrap64_id (x := (i : Int) + 1) (by omega) (by omega)]
  refine tite (fun c => ?_) (fun c => tsome (by rw [show i = l.length by omega]))
  refine tpos (by omega) (tpos c ?_)
  refine tbind (inLast_tot l i hl (by omega) c) (fun _ e => ?_); subst e
  have hr := lastAt_range l i (i : Int).toNat
  have hlen := fastUpto_len l rep i
  have go : ∀ o, o = fastUpto l rep (i + 1) → Tot (fun k => spec_inFast.l0 k l rep o l (l.length : Int) ((i : Int) + 1)) (fun r => r = fastUpto l rep l.length) := fun o e => by
    rw [e]
    have := ih (i + 1) (by omega) (by omega)
    simpa using this
  refine tite (fun c2 => ?_) (fun c2 => go _ (by conv => rhs; unfold fastUpto; rw [if_neg (fun h => c2 h.1)]))
  refine tpos c2 (tpos (by omega) ?_)
  have s1 := hs i (by omega) c
  have s2 := hs (lastAt l i (i : Int).toNat) c2 (by omega)
  rw [wrap64_id (by omega) (by omega)]
  refine tite (fun c3 => tpos (by omega) (go _ (by conv => rhs; unfold fastUpto; rw [if_pos ⟨c2, c3⟩]))) (fun c3 => go _ (by conv => rhs; unfold fastUpto; rw [if_neg (fun h => c3 h.2)]))
theorem implFast_tot (l : List S93) (rep : Int) (hl : l.length ≤ 1048576) (hs : starts l) : Tot (fun k => impl_fastRepeats.f k l rep) (fun r => r = fastUpto l rep l.length) := by
  unfold impl_fastRepeats.f
  refine trec (σ := Nat) (fun i k => impl_fastRepeats.l0 k l rep (fastUpto l rep i) l (l.length : Int) (i : Int)) (fun i => l.length - i) (fun i => i ≤ l.length) (fun _ r => r = fastUpto l rep l.length) ?_ 0 (Nat.zero_le _)
  intro i hi ih
  simp only [impl_fastRepeats.l0]
  refine tite (fun c => ?_) (fun c => tsome (by rw [show i = l.length by omega]))
  refine tpos (by omega) (tpos c ?_)
  rw [wrap64_id (x := (i : Int) - 1) (by omega) (by omega)]
  have hlen := fastUpto_len l rep i
  have go : ∀ o, o = fastUpto l rep (i + 1) → Tot (fun k => impl_fastRepeats.l0 k l rep o l (l.length : Int) ((i : Int) + 1)) (fun r => r = fastUpto l rep l.length) := fun o e => by
    rw [e]
    have := ih (i + 1) (by omega) (by omega)
    simpa using this
  have key := trec (σ := Nat) (fun m k => impl_fastRepeats.l1 k l rep (fastUpto l rep i) (i : Int) ((m : Int) - 1) l (l.length : Int) (i : Int) (rd_T93 l i).f0 (rd_T93 l i).f1 (rd_T93 l i).f2) (fun m => m) (fun m => (m : Int) ≤ i ∧ lastAt l i m = lastAt l i (i : Int).toNat) (fun _ r => r = fastUpto l rep l.length) ?_ i ⟨Int.le_refl _, by simp⟩
  · exact key
  · rintro m ⟨hm, he⟩ ihm
    simp only [impl_fastRepeats.l1, wrap64_id (x := (m : Int) - 1 - 1) (by omega) (by omega), wrap64_id (x := (i : Int) + 1) (by omega) (by omega)]
    refine tite (fun c2 => ?_) (fun c2 => ?_)
    · refine tpos c2 (tpos (by omega) ?_)
      obtain ⟨q, rfl⟩ : ∃ q, m = q + 1 := ⟨m - 1, by omega⟩
      simp only [show ((q + 1 : Nat) : Int) - 1 = (q : Int) by omega]
      refine tite (fun c3 => ?_) (fun c3 => ihm q ⟨by omega, by rw [← he]; conv => rhs; unfold lastAt; rw [if_neg c3]⟩ (by (try dsimp only); omega))
      have e : lastAt l i (i : Int).toNat = q := by rw [← he]; unfold lastAt; rw [if_pos c3]
      have s1 := hs i (by omega) c
      have s2 := hs q (by omega) (by omega)
      rw [wrap64_id (by omega) (by omega)]
      refine tite (fun c4 => tpos (by omega) (go _ (by conv => rhs; unfold fastUpto; rw [if_pos (show isFast l rep i from ⟨by omega, by rw [e]; exact c4⟩), e]))) (fun c4 => go _ (by conv => rhs; unfold fastUpto; rw [if_neg (fun h => c4 (by have := h.2; rw [e] at this; exact this))]))
    · obtain rfl : m = 0 := by omega
      exact go _ (by conv => rhs; unfold fastUpto; rw [if_neg (fun h => by have h1 := h.1; rw [← he] at h1; unfold lastAt at h1; omega)])
theorem fast_one (l : List S93) (hg : ntGood l) (rep : Int) (hr : rep ≤ 1) (i : Nat) (hi : i ≤ l.length) : fastUpto l rep i = [] := by
  induction i with
  | zero => rfl
  | succ i ih =>
    unfold fastUpto
    rw [if_neg, ih (by omega)]
    intro h
    obtain ⟨h1, h2⟩ := h
    have hrng := lastAt_range l i (i : Int).toNat
    have hh := lastAt_hit l i (i : Int).toNat h1
    have hm := (hg.1 i (by omega) (by omega)).2.2 _ h1 (by omega)
    have ho := (hg.1 _ h1 (show lastAt l i (i : Int).toNat < (l.length : Int) by omega)).1
    unfold ntMeet at hm
    unfold OkNote at ho
    omega

theorem specGreatest_tot (l : List S93) (hg : ntGood l) (hl : l.length ≤ 1048576) : Tot (fun k => spec_GreatestRepeat.l0 k l 20) (fun r => ∃ g, r = (g, true) ∧ 1 ≤ g ∧ g ≤ 20 ∧ (fastUpto l g l.length).length = 0 ∧ ∀ q : Int, g < q → q ≤ 20 → (fastUpto l q l.length).length ≠ 0) := by
  refine trec (σ := Int) (fun g k => spec_GreatestRepeat.l0 k l g) (fun g => g.toNat) (fun g => 1 ≤ g ∧ g ≤ 20 ∧ ∀ q : Int, g < q → q ≤ 20 → (fastUpto l q l.length).length ≠ 0) (fun _ r => ∃ g, r = (g, true) ∧ 1 ≤ g ∧ g ≤ 20 ∧ (fastUpto l g l.length).length = 0 ∧ ∀ q : Int, g < q → q ≤ 20 → (fastUpto l q l.length).length ≠ 0) ?_ 20 ⟨by omega, by omega, fun q a b => by omega⟩
  rintro g ⟨h0, h1, h2⟩ ih
  simp only [spec_GreatestRepeat.l0, wrap64_id (x := g - 1) (by omega) (by omega)]
  refine tbind (inFast_tot l g hl (starts_of hg)) (fun _ e => ?_); subst e
  refine tite (fun c => ?_) (fun c => tsome ⟨g, rfl, h0, h1, by omega, h2⟩)
  have : g ≠ 1 := fun e => by
    rw [e, fast_one l hg 1 (by omega) l.length (Nat.le_refl _)] at c
    simp at c
  exact ih (g - 1) ⟨by omega, by omega, fun q a b => by
    by_cases e : q = g
    · rw [e]; omega
    · exact h2 q (by omega) b⟩ (by (try dsimp only); omega)
theorem implGreatest_tot (l : List S93) (hg : ntGood l) (hl : l.length ≤ 1048576) : Tot (fun k => impl_GreatestRepeat.l0 k l 20) (fun r => ∃ g, r = (g, true) ∧ 1 ≤ g ∧ g ≤ 20 ∧ (fastUpto l g l.length).length = 0 ∧ ∀ q : Int, g < q → q ≤ 20 → (fastUpto l q l.length).length ≠ 0) := by
  refine trec (σ := Int) (fun g k => impl_GreatestRepeat.l0 k l g) (fun g => g.toNat) (fun g => 1 ≤ g ∧ g ≤ 20 ∧ ∀ q : Int, g < q → q ≤ 20 → (fastUpto l q l.length).length ≠ 0) (fun _ r => ∃ g, r = (g, true) ∧ 1 ≤ g ∧ g ≤ 20 ∧ (fastUpto l g l.length).length = 0 ∧ ∀ q : Int, g < q → q ≤ 20 → (fastUpto l q l.length).length ≠ 0) ?_ 20 ⟨by omega, by omega, fun q a b => by omega⟩
  rintro g ⟨h0, h1, h2⟩ ih
  simp only [impl_GreatestRepeat.l0, wrap64_id (x := g - 1) (by omega) (by omega)]
  refine tite (fun c0 => ?_) (fun c0 => tsome ⟨1, rfl, by omega, by omega, by rw [fast_one l hg 1 (by omega) l.length (Nat.le_refl _)]; rfl, fun q a b => h2 q (by omega) b⟩)
  refine tbind (implFast_tot l g hl (starts_of hg)) (fun _ e => ?_); subst e
  refine tite (fun c => tsome ⟨g, rfl, h0, h1, by omega, h2⟩) (fun c => ?_)
  exact ih (g - 1) ⟨by omega, by omega, fun q a b => by
    by_cases e : q = g
    · rw [e]; omega
    · exact h2 q (by omega) b⟩ (by (try dsimp only); omega)
theorem greatestRepeat_agree (l : List S93) (hl : l.length ≤ 1048576) : ∃ r, Tot (fun k => spec_GreatestRepeat.f k l) (fun y => y = r) ∧ Tot (fun k => impl_GreatestRepeat.f k l) (fun y => y = r) := by
  by_cases hg : ntGood l
  · obtain ⟨r, hr, g, rfl, g1, g2, g3, g4⟩ := specGreatest_tot l hg hl
    refine ⟨(g, true), ?_, ?_⟩
    · unfold spec_GreatestRepeat.f
      exact tbind (ntGood_tot l hl) (fun b hb => tpos (hb.2 hg) ⟨_, hr, rfl⟩)
    · unfold impl_GreatestRepeat.f
      refine tbind (isScore_tot l hl) (fun b hb => tpos (hb.2 hg) (tmono (implGreatest_tot l hg hl) (fun y hy => ?_)))
      obtain ⟨g', rfl, g1', g2', g3', g4'⟩ := hy
      have : g' = g := by
        rcases Int.lt_trichotomy g' g with h | h | h
        · exact absurd g3 (g4' g h g2)
        · exact h
        · exact absurd g3' (g4 g' h g2')
      rw [this]
  · refine ⟨(0, false), ?_, ?_⟩
    · unfold spec_GreatestRepeat.f
      exact tbind (ntGood_tot l hl) (fun b hb => tneg (fun h => hg (hb.1 h)) (tsome rfl))
    · unfold impl_GreatestRepeat.f
      exact tbind (isScore_tot l hl) (fun b hb => tneg (fun h => hg (hb.1 h)) (tsome rfl))


theorem FnExactGreatestRepeat (l0 : List (S96)) (hm0 : l0.length ≤ 9223372036854775807) (hw0 : ∀ y ∈ l0, Glue.wf64 y.f0 ∧ Glue.wf64 y.f1 ∧ Glue.wf64 y.f2) : ∃ k, laws_FnExactGreatestRepeat.f k l0 = some true := by
  refine rounds ?_
  unfold laws_FnExactGreatestRepeat.f
  rw [szNoteS l0 (1048576 : Int) (by omega) (by omega) hm0]
  simp only [Option.bind_some]
  by_cases hl0 : (1048576 : Int) < (l0.length : Int)
  · simp only [if_pos hl0]; exact tpos (by omega) (tsome rfl)
  simp only [if_neg hl0]
  refine tneg (by omega) ?_
  obtain ⟨r, hS, hI⟩ := greatestRepeat_agree (l0.map cvNote) (by simp; omega)
  repeat first
    | exact tsome rfl
    | (refine tbind hS (fun _ e => ?_); subst e)
    | (refine tbind hI (fun _ e => ?_); subst e)
    | (refine tbind (toNoteS l0 (by omega)) (fun _ e => ?_); subst e)
    | (refine tbind (eqNoteS _ (by first | omega | (dsimp only; omega) | (simp; omega) | assumption)) (fun _ e => ?_); subst e)
    | refine tpos rfl ?_
    | refine tneg (by dsimp only; omega) ?_
    | refine tneg (by omega) ?_
    | refine tneg (by simp; done) ?_
    | refine tpos (by dsimp only) ?_
    | (refine tstep ?_; simp only [laws_FnExactGreatestRepeat.j0])
end Go.Proofs.Ytioagkpinneheaa.Pure
