/- The plain side of the law FnScores: lists and numbers alone. -/
import Derived.Test.YtfpfjnmjekjnhaaGreatDoorPFnScoresx18
import Derived.Test.YtfpfjnmjekjnhaaGreatDoorGlue
import Derived.Test.YtfpfjnmjekjnhaaGreatDoorTot
import Derived.Laws.Bits64b
import Derived.Lib.Join
import Derived.Lib.IndexMore
set_option linter.unusedVariables false
set_option linter.unusedSimpArgs false
namespace Go.Proofs.YtfpfjnmjekjnhaaGreatDoor.Pure
open Go.RowKit Go.Proofs.YtfpfjnmjekjnhaaGreatDoor.PFnScores Go.Proofs.YtfpfjnmjekjnhaaGreatDoorW.PrintWords Go.Proofs.YtfpfjnmjekjnhaaGreatDoorW.PrintMore Go.Proofs.YtfpfjnmjekjnhaaGreatDoor.Tot

theorem l1In_eq (a b c : Int) : spec_l1In.f a b c = some (decide (b ≤ a ∧ a ≤ c)) := by
  unfold spec_l1In.f
  by_cases h : b ≤ a <;> simp [h]
abbrev OkNote (a b c : Int) : Prop := 24 ≤ a ∧ a ≤ 96 ∧ 0 ≤ b ∧ b ≤ 999 ∧ 1 ≤ c ∧ c ≤ 99
theorem ntNote_eq (a b c : Int) : spec_ntNote.f a b c = some (decide (OkNote a b c)) := by
  unfold spec_ntNote.f spec_ntPitch.f OkNote
  simp only [l1In_eq, Option.bind_some, decide_eq_true_eq]
  split
  · split
    · congr 1; rw [Bool.eq_iff_iff]; simp only [decide_eq_true_eq]; omega
    · congr 1; rw [Bool.eq_iff_iff]; simp only [decide_eq_true_eq]; simp; omega
  · congr 1; rw [Bool.eq_iff_iff]; simp only [decide_eq_true_eq]; simp; omega
theorem implIsNote_eq (a b c : Int) : impl_IsNote.f a b c = some (decide (OkNote a b c)) := by
  unfold impl_IsNote.f OkNote
  by_cases h1 : 24 ≤ a <;> by_cases h2 : a ≤ 96 <;> by_cases h3 : 0 ≤ b <;> by_cases h4 : b ≤ 999 <;> by_cases h5 : 1 ≤ c <;> simp [h1, h2, h3, h4, h5] <;> omega
def ntLess (x y : S31) : Prop := x.f1 < y.f1 ∨ (x.f1 = y.f1 ∧ x.f0 < y.f0)
def ntMeet (x y : S31) : Prop := x.f0 = y.f0 ∧ y.f1 < x.f1 + x.f2
def ntA (l : List S31) (j : Int) : Prop := OkNote (rd_T31 l j).f0 (rd_T31 l j).f1 (rd_T31 l j).f2 ∧ (0 < j → ntLess (rd_T31 l (j - 1)) (rd_T31 l j))
def ntC (l : List S31) (j : Int) : Prop := OkNote (rd_T31 l j).f0 (rd_T31 l j).f1 (rd_T31 l j).f2 ∧ (0 < j → ntLess (rd_T31 l (j - 1)) (rd_T31 l j)) ∧ (∀ p : Int, 0 ≤ p → p < j → ¬ ntMeet (rd_T31 l p) (rd_T31 l j))
theorem nt_take (l : List S31) (i p : Int) (h0 : 0 ≤ p) (h : p < i) : rd_T31 (l.take i.toNat) p = rd_T31 l p := by
  unfold rd_T31
  exact ld_take i.toNat p h0 (by omega)
theorem nt_start (l : List S31) (i : Int) (hp : ∀ j : Int, 0 ≤ j → j < i → ntC l j) (hi : 0 < i → ntLess (rd_T31 l (i - 1)) (rd_T31 l i)) (p : Int) (p0 : 0 ≤ p) (p1 : p < i) : (rd_T31 l p).f1 ≤ (rd_T31 l i).f1 := by
  have key : ∀ (d : Nat) (j : Int), j = p + d → j ≤ i → (rd_T31 l p).f1 ≤ (rd_T31 l j).f1 := by
    intro d
    induction d with
    | zero => intro j e _; rw [show j = p by omega]; exact Int.le_refl _
    | succ d ih =>
      intro j e h
      have h1 := ih (j - 1) (by omega) (by omega)
      have h2 : ntLess (rd_T31 l (j - 1)) (rd_T31 l j) := by
        by_cases e2 : j = i
        · rw [e2]; exact hi (by omega)
        · exact (hp j (by omega) (by omega)).2.1 (by omega)
      unfold ntLess at h2
      omega
  exact key (i - p).toNat i (by omega) (Int.le_refl _)
def ntGood (l : List S31) : Prop := (∀ j : Int, 0 ≤ j → j < (l.length : Int) → ntC l j) ∧ (l.length : Int) ≤ 30
theorem ntBefore_eq (a b c d e f : Int) : spec_ntBefore.f a b c d e f = some (decide (b < e ∨ (b = e ∧ a < d))) := by
  unfold spec_ntBefore.f
  by_cases h1 : b < e <;> by_cases h2 : b = e <;> simp [h1, h2]
theorem noteLess_eq (a b c d e f : Int) : impl_noteLess.f a b c d e f = some (decide (b < e ∨ (b = e ∧ a < d))) := by
  unfold impl_noteLess.f
  by_cases h2 : b = e
  · subst h2; simp
  · simp [h2]
theorem ntMeet_eq (a b c d e f : Int) (h : OkNote a b c) (g : OkNote d e f) : spec_ntMeet.f a b c d e f = some (decide (a = d ∧ b < e + f ∧ e < b + c)) := by
  unfold spec_ntMeet.f
  unfold OkNote at h g
  rw [wrap64_id (x := e + f) (by omega) (by omega), wrap64_id (x := b + c) (by omega) (by omega)]
  by_cases h1 : a = d <;> by_cases h2 : b < e + f <;> simp [h1, h2]
theorem noteEnd_eq (a b c : Int) (h : OkNote a b c) : impl_noteEnd.f a b c = some (b + c) := by
  unfold impl_noteEnd.f
  unfold OkNote at h
  rw [wrap64_id (by omega) (by omega)]
theorem nt_spec_ntGood_loop (l : List S31) (hl : l.length ≤ 1048576) : Tot (fun k => spec_ntGood.l0 k l l (l.length : Int) 0) (fun b => (b = true) ↔ ((∀ j : Int, 0 ≤ j → j < (l.length : Int) → ntC l j) ∧ (l.length : Int) ≤ 30)) := by
  refine trec (σ := Int) (fun i k => spec_ntGood.l0 k l l (l.length : Int) i) (fun i => ((l.length : Int) - i).toNat) (fun i => 0 ≤ i ∧ i ≤ (l.length : Int) ∧ ∀ j : Int, 0 ≤ j → j < i → ntC l j)
    (fun i b => (b = true) ↔ ((∀ j : Int, i ≤ j → j < (l.length : Int) → ntC l j) ∧ (l.length : Int) ≤ 30)) ?_ 0 ⟨Int.le_refl _, by omega, fun j a b => by omega⟩
  rintro i ⟨h0, h1, hp⟩ ih
  have hno : i < (l.length : Int) → ¬ ntC l i → Tot (fun _ => some false) (fun b => (b = true) ↔ ((∀ j : Int, i ≤ j → j < (l.length : Int) → ntC l j) ∧ (l.length : Int) ≤ 30)) := fun a b => tsome (all_no a b)
  have hjT : i < (l.length : Int) → ¬ ntA l i → Tot (fun k => spec_ntGood.j1 k l i l (l.length : Int) i true (rd_T31 l i).f0 (rd_T31 l i).f1 (rd_T31 l i).f2) (fun b => (b = true) ↔ ((∀ j : Int, i ≤ j → j < (l.length : Int) → ntC l j) ∧ (l.length : Int) ≤ 30)) := by
    intro a b
    refine tstep ?_
    simp only [spec_ntGood.j1, if_true]
    exact hno a (fun h => b ⟨h.1, h.2.1⟩)
  have hjF : i < (l.length : Int) → ntA l i → Tot (fun k => spec_ntGood.j1 k l i l (l.length : Int) i false (rd_T31 l i).f0 (rd_T31 l i).f1 (rd_T31 l i).f2) (fun b => (b = true) ↔ ((∀ j : Int, i ≤ j → j < (l.length : Int) → ntC l j) ∧ (l.length : Int) ≤ 30)) := by
    intro a hA
    refine tstep ?_
    simp only [spec_ntGood.j1, Option.bind_some]
    refine tneg (by simp) (tpos h0 (tpos h1 ?_))
    have hlen : ((l.take i.toNat).length : Int) = i := by simp; omega
    rw [hlen]
    refine trec (σ := Int) (fun p k => spec_ntGood.l1 k l l (l.length : Int) i (l.take i.toNat) i p (rd_T31 l i).f0 (rd_T31 l i).f1 (rd_T31 l i).f2) (fun p => (i - p).toNat) (fun p => 0 ≤ p ∧ p ≤ i ∧ ∀ q : Int, 0 ≤ q → q < p → ¬ ntMeet (rd_T31 l q) (rd_T31 l i))
      (fun _ => (fun b => (b = true) ↔ ((∀ j : Int, i ≤ j → j < (l.length : Int) → ntC l j) ∧ (l.length : Int) ≤ 30))) ?_ 0 ⟨Int.le_refl _, h0, fun q a b => by omega⟩
    rintro p ⟨p0, p1, pq⟩ ihp
    simp only [spec_ntGood.l1, hlen, wrap64_id (show -9223372036854775808 ≤ i + 1 by omega) (by omega), wrap64_id (show -9223372036854775808 ≤ p + 1 by omega) (by omega)]
    refine tite (fun c => ?_) (fun c => ?_)
    · refine tpos p0 (tpos c ?_)
      simp only [nt_take l i p p0 c]
      have hs := nt_start l i hp hA.2 p p0 c
      have o1 := (hp p p0 c).1
      have o2 := hA.1
      simp only [ntMeet_eq _ _ _ _ _ _ o2 o1, Option.bind_some, decide_eq_true_eq]
      unfold OkNote at o1 o2
      have go : ¬ ntMeet (rd_T31 l p) (rd_T31 l i) → Tot (fun k => spec_ntGood.l1 k l l (l.length : Int) i (l.take i.toNat) i (p + 1) (rd_T31 l i).f0 (rd_T31 l i).f1 (rd_T31 l i).f2) (fun b => (b = true) ↔ ((∀ j : Int, i ≤ j → j < (l.length : Int) → ntC l j) ∧ (l.length : Int) ≤ 30)) := fun hm =>
        ihp (p + 1) ⟨by omega, by omega, fun q q0 q1 => by
          by_cases e : q = p
          · rw [e]; exact hm
          · exact pq q q0 (by omega)⟩ (by (try dsimp only); omega)
      repeat' (refine tite (fun _ => ?_) (fun _ => ?_))
      all_goals first
        | exact go (by unfold ntMeet; omega)
        | exact hno a (fun h => h.2.2 p p0 c (by unfold ntMeet; omega))
    · have Ci : ntC l i := ⟨hA.1, hA.2, fun q q0 q1 => pq q q0 (by omega)⟩
      exact tmono (ih (i + 1) ⟨by omega, by omega, fun j j0 j1 => by
        by_cases e : j = i
        · rw [e]; exact Ci
        · exact hp j j0 (by omega)⟩ (by (try dsimp only); omega)) (fun b hb => all_go a Ci hb)
  simp only [spec_ntGood.l0, ntNote_eq, ntBefore_eq, Option.bind_some, decide_eq_true_eq]
  simp only [show wrap64 (i - 1) = i - 1 from wrap64_id (by omega) (by omega)]
  by_cases hL : ntLess (rd_T31 l (i - 1)) (rd_T31 l i)
  all_goals
    have hL2 := hL
    unfold ntLess at hL2
    simp only [hL2, decide_true, decide_false, Bool.not_true, Bool.not_false]
    repeat' (refine tite (fun _ => ?_) (fun _ => ?_))
    all_goals first
      | (exfalso; omega)
      | exact hjF (by omega) ⟨by assumption, fun _ => hL⟩
      | exact hjF (by omega) ⟨by assumption, fun h => absurd h (by omega)⟩
      | exact hjT (by omega) (fun h => absurd h.1 (by assumption))
      | exact hjT (by omega) (fun h => absurd (h.2 (by omega)) hL)
      | exact tsome (all_end (by omega) (by simp only [decide_eq_true_eq]))
theorem nt_impl_IsScore_loop (l : List S31) (hl : l.length ≤ 1048576) : Tot (fun k => impl_IsScore.l0 k l l (l.length : Int) 0) (fun b => (b = true) ↔ ((∀ j : Int, 0 ≤ j → j < (l.length : Int) → ntC l j) ∧ True)) := by
  refine trec (σ := Int) (fun i k => impl_IsScore.l0 k l l (l.length : Int) i) (fun i => ((l.length : Int) - i).toNat) (fun i => 0 ≤ i ∧ i ≤ (l.length : Int) ∧ ∀ j : Int, 0 ≤ j → j < i → ntC l j)
    (fun i b => (b = true) ↔ ((∀ j : Int, i ≤ j → j < (l.length : Int) → ntC l j) ∧ True)) ?_ 0 ⟨Int.le_refl _, by omega, fun j a b => by omega⟩
  rintro i ⟨h0, h1, hp⟩ ih
  have hno : i < (l.length : Int) → ¬ ntC l i → Tot (fun _ => some false) (fun b => (b = true) ↔ ((∀ j : Int, i ≤ j → j < (l.length : Int) → ntC l j) ∧ True)) := fun a b => tsome (all_no a b)
  have hjT : i < (l.length : Int) → ¬ ntA l i → Tot (fun k => impl_IsScore.j1 k l i l (l.length : Int) i true (rd_T31 l i).f0 (rd_T31 l i).f1 (rd_T31 l i).f2) (fun b => (b = true) ↔ ((∀ j : Int, i ≤ j → j < (l.length : Int) → ntC l j) ∧ True)) := by
    intro a b
    refine tstep ?_
    simp only [impl_IsScore.j1, if_true]
    exact hno a (fun h => b ⟨h.1, h.2.1⟩)
  have hjF : i < (l.length : Int) → ntA l i → Tot (fun k => impl_IsScore.j1 k l i l (l.length : Int) i false (rd_T31 l i).f0 (rd_T31 l i).f1 (rd_T31 l i).f2) (fun b => (b = true) ↔ ((∀ j : Int, i ≤ j → j < (l.length : Int) → ntC l j) ∧ True)) := by
    intro a hA
    refine tstep ?_
    simp only [impl_IsScore.j1, Option.bind_some]
    refine tneg (by simp) (tpos h0 (tpos h1 ?_))
    have hlen : ((l.take i.toNat).length : Int) = i := by simp; omega
    rw [hlen]
    refine trec (σ := Int) (fun p k => impl_IsScore.l1 k l l (l.length : Int) i (l.take i.toNat) i p (rd_T31 l i).f0 (rd_T31 l i).f1 (rd_T31 l i).f2) (fun p => (i - p).toNat) (fun p => 0 ≤ p ∧ p ≤ i ∧ ∀ q : Int, 0 ≤ q → q < p → ¬ ntMeet (rd_T31 l q) (rd_T31 l i))
      (fun _ => (fun b => (b = true) ↔ ((∀ j : Int, i ≤ j → j < (l.length : Int) → ntC l j) ∧ True))) ?_ 0 ⟨Int.le_refl _, h0, fun q a b => by omega⟩
    rintro p ⟨p0, p1, pq⟩ ihp
    simp only [impl_IsScore.l1, hlen, wrap64_id (show -9223372036854775808 ≤ i + 1 by omega) (by omega), wrap64_id (show -9223372036854775808 ≤ p + 1 by omega) (by omega)]
    refine tite (fun c => ?_) (fun c => ?_)
    · refine tpos p0 (tpos c ?_)
      simp only [nt_take l i p p0 c]
      have hs := nt_start l i hp hA.2 p p0 c
      have o1 := (hp p p0 c).1
      have o2 := hA.1
      simp only [noteEnd_eq _ _ _ o1, Option.bind_some]
      unfold OkNote at o1 o2
      have go : ¬ ntMeet (rd_T31 l p) (rd_T31 l i) → Tot (fun k => impl_IsScore.l1 k l l (l.length : Int) i (l.take i.toNat) i (p + 1) (rd_T31 l i).f0 (rd_T31 l i).f1 (rd_T31 l i).f2) (fun b => (b = true) ↔ ((∀ j : Int, i ≤ j → j < (l.length : Int) → ntC l j) ∧ True)) := fun hm =>
        ihp (p + 1) ⟨by omega, by omega, fun q q0 q1 => by
          by_cases e : q = p
          · rw [e]; exact hm
          · exact pq q q0 (by omega)⟩ (by (try dsimp only); omega)
      repeat' (refine tite (fun _ => ?_) (fun _ => ?_))
      all_goals first
        | exact go (by unfold ntMeet; omega)
        | exact hno a (fun h => h.2.2 p p0 c (by unfold ntMeet; omega))
    · have Ci : ntC l i := ⟨hA.1, hA.2, fun q q0 q1 => pq q q0 (by omega)⟩
      exact tmono (ih (i + 1) ⟨by omega, by omega, fun j j0 j1 => by
        by_cases e : j = i
        · rw [e]; exact Ci
        · exact hp j j0 (by omega)⟩ (by (try dsimp only); omega)) (fun b hb => all_go a Ci hb)
  simp only [impl_IsScore.l0, implIsNote_eq, noteLess_eq, Option.bind_some, decide_eq_true_eq]
  simp only [show wrap64 (i - 1) = i - 1 from wrap64_id (by omega) (by omega)]
  by_cases hL : ntLess (rd_T31 l (i - 1)) (rd_T31 l i)
  all_goals
    have hL2 := hL
    unfold ntLess at hL2
    simp only [hL2, decide_true, decide_false, Bool.not_true, Bool.not_false]
    repeat' (refine tite (fun _ => ?_) (fun _ => ?_))
    all_goals first
      | (exfalso; omega)
      | exact hjF (by omega) ⟨by assumption, fun _ => hL⟩
      | exact hjF (by omega) ⟨by assumption, fun h => absurd h (by omega)⟩
      | exact hjT (by omega) (fun h => absurd h.1 (by assumption))
      | exact hjT (by omega) (fun h => absurd (h.2 (by omega)) hL)
      | exact tsome (all_end (by omega) (by simp))
theorem ntGood_tot (l : List S31) (hl : l.length ≤ 1048576) : Tot (fun k => spec_ntGood.f k l) (fun b => (b = true) ↔ ntGood l) := by
  unfold spec_ntGood.f
  exact nt_spec_ntGood_loop l hl
theorem isScore_tot (l : List S31) (hl : l.length ≤ 1048576) : Tot (fun k => impl_IsScore.f k l) (fun b => (b = true) ↔ ntGood l) := by
  unfold impl_IsScore.f ntGood
  refine tite (fun c => tsome ⟨(fun h => by simp at h), (fun h => by have := h.2; omega)⟩) (fun c => ?_)
  refine tmono (nt_impl_IsScore_loop l hl) (fun b hb => ?_)
  rw [hb]
  exact ⟨fun h => ⟨h.1, by omega⟩, fun h => ⟨h.1, trivial⟩⟩
def Idx (l : List Int) (x i r : Int) : Prop := (r = -1 ∧ ∀ j : Int, i ≤ j → j < (l.length : Int) → rd l j ≠ x) ∨ (i ≤ r ∧ r < (l.length : Int) ∧ rd l r = x ∧ ∀ j : Int, i ≤ j → j < r → rd l j ≠ x)
theorem Idx.det {l : List Int} {x r r' : Int} (h : Idx l x 0 r) (h' : Idx l x 0 r') : r = r' := by
  rcases h with ⟨e, h⟩ | ⟨a, b, c, h⟩ <;> rcases h' with ⟨e', h'⟩ | ⟨a', b', c', h'⟩
  · omega
  · exact absurd c' (h r' a' b')
  · exact absurd c (h' r a b)
  · rcases Int.lt_trichotomy r r' with g | g | g
    · exact absurd c (h' r a g)
    · exact g
    · exact absurd c' (h r' a' g)
theorem l1Most_eq (a b : Int) : spec_l1Most.f a b = some (mx a b) := by
  unfold spec_l1Most.f mx
  by_cases h : a > b
  · rw [if_pos h, if_neg (by omega)]
  · rw [if_neg h]
    by_cases h2 : a < b
    · rw [if_pos h2]
    · rw [if_neg h2]
      congr 1; omega
theorem l1LeastMn_eq (a b : Int) : spec_l1Least.f a b = some (mn a b) := by
  unfold spec_l1Least.f mn
  by_cases h : a < b
  · rw [if_pos h, if_neg (by omega)]
  · rw [if_neg h]
    by_cases h2 : b < a
    · rw [if_pos h2]
    · rw [if_neg h2]
      congr 1; omega
def noteEnds (l : List S31) : Nat → Int
  | 0 => 0
  | i + 1 => mx (noteEnds l i) ((rd_T31 l i).f1 + (rd_T31 l i).f2)
theorem ntEnd_tot (l : List S31) (hg : ntGood l) : Tot (fun k => spec_ntEnd.f k l) (fun r => r = noteEnds l l.length) := by
  have hn := hg.2
  unfold spec_ntEnd.f
  refine trec (σ := Nat) (fun i k => spec_ntEnd.l0 k (noteEnds l i) l (l.length : Int) (i : Int)) (fun i => l.length - i) (fun i => i ≤ l.length) (fun _ r => r = noteEnds l l.length) ?_ 0 (Nat.zero_le _)
  intro i hi ih
  simp only [spec_ntEnd.l0, l1Most_eq, Option.bind_some, wrap64_id (x := (i : Int) + 1) (by omega) (by omega)]
  refine tite (fun c => ?_) (fun c => tsome (by rw [show i = l.length by omega]))
  refine tpos (by omega) (tpos c ?_)
  have ho := (hg.1 i (by omega) c).1
  unfold OkNote at ho
  rw [wrap64_id (by omega) (by omega)]
  have := ih (i + 1) (by omega) (by omega)
  simpa [noteEnds] using this
theorem endOfScore_agree (l : List S31) (hl : l.length ≤ 1048576) : ∃ r, Tot (fun k => spec_EndOfScore.f k l) (fun y => y = r) ∧ Tot (fun k => impl_EndOfScore.f k l) (fun y => y = r) := by
  by_cases hg : ntGood l
  · refine ⟨(noteEnds l l.length, true), ?_, ?_⟩
    · unfold spec_EndOfScore.f
      refine tbind (ntGood_tot l hl) (fun b hb => tpos (hb.2 hg) ?_)
      refine tbind (ntEnd_tot l hg) (fun _ e => ?_); subst e
      exact tsome rfl
    · unfold impl_EndOfScore.f
      refine tbind (isScore_tot l hl) (fun b hb => tpos (hb.2 hg) ?_)
      refine trec (σ := Nat) (fun i k => impl_EndOfScore.l0 k (noteEnds l i) l (l.length : Int) (i : Int)) (fun i => l.length - i) (fun i => i ≤ l.length) (fun _ r => r = (noteEnds l l.length, true)) ?_ 0 (Nat.zero_le _)
      intro i hi ih
      simp only [impl_EndOfScore.l0, wrap64_id (x := (i : Int) + 1) (by omega) (by omega)]
      refine tite (fun c => ?_) (fun c => tsome (by rw [show i = l.length by omega]))
      refine tpos (by omega) (tpos c ?_)
      rw [noteEnd_eq _ _ _ (hg.1 i (by omega) c).1]
      simp only [Option.bind_some]
      have := ih (i + 1) (by omega) (by omega)
      simpa [noteEnds] using this
  · refine ⟨(0, false), ?_, ?_⟩
    · unfold spec_EndOfScore.f
      exact tbind (ntGood_tot l hl) (fun b hb => tneg (fun h => hg (hb.1 h)) (tsome rfl))
    · unfold impl_EndOfScore.f
      exact tbind (isScore_tot l hl) (fun b hb => tneg (fun h => hg (hb.1 h)) (tsome rfl))
def loUpto (l : List S31) (z : Int) : Nat → Int
  | 0 => z
  | i + 1 => mn (loUpto l z i) (rd_T31 l i).f0
def hiUpto (l : List S31) (z : Int) : Nat → Int
  | 0 => z
  | i + 1 => mx (hiUpto l z i) (rd_T31 l i).f0
theorem loUpto_same (l : List S31) (hg : ntGood l) (i : Nat) (h1 : i + 1 ≤ l.length) : loUpto l 96 (i + 1) = loUpto l (rd_T31 l 0).f0 (i + 1) := by
  induction i with
  | zero =>
    have ho := (hg.1 0 (by omega) (by omega)).1
    unfold OkNote at ho
    show mn 96 (rd_T31 l 0).f0 = mn (rd_T31 l 0).f0 (rd_T31 l 0).f0
    unfold mn
    rw [if_neg (Int.lt_irrefl (rd_T31 l 0).f0)]
    split <;> omega
  | succ i ih =>
    have := ih (by omega)
    unfold loUpto
    rw [this]
theorem hiUpto_same (l : List S31) (hg : ntGood l) (i : Nat) (h1 : i + 1 ≤ l.length) : hiUpto l 24 (i + 1) = hiUpto l (rd_T31 l 0).f0 (i + 1) := by
  induction i with
  | zero =>
    have ho := (hg.1 0 (by omega) (by omega)).1
    unfold OkNote at ho
    show mx 24 (rd_T31 l 0).f0 = mx (rd_T31 l 0).f0 (rd_T31 l 0).f0
    unfold mx
    rw [if_neg (Int.lt_irrefl (rd_T31 l 0).f0)]
    split <;> omega
  | succ i ih =>
    have := ih (by omega)
    unfold hiUpto
    rw [this]
theorem rangeOf_agree (l : List S31) (hl : l.length ≤ 1048576) : ∃ r, Tot (fun k => spec_RangeOf.f k l) (fun y => y = r) ∧ Tot (fun k => impl_RangeOf.f k l) (fun y => y = r) := by
  have sF : Tot (fun k => spec_RangeOf.j0 k l true) (fun y => y = (0, 0, false)) := by
    refine tstep ?_
    simp only [spec_RangeOf.j0, if_true]
    exact tsome rfl
  have iF : Tot (fun k => impl_RangeOf.j0 k l true) (fun y => y = (0, 0, false)) := by
    refine tstep ?_
    simp only [impl_RangeOf.j0, if_true]
    exact tsome rfl
  by_cases hg : ntGood l ∧ 0 < l.length
  · obtain ⟨hg, hp⟩ := hg
    refine ⟨(loUpto l (rd_T31 l 0).f0 l.length, hiUpto l (rd_T31 l 0).f0 l.length, true), ?_, ?_⟩
    · unfold spec_RangeOf.f
      refine tbind (ntGood_tot l hl) (fun b hb => tpos (hb.2 hg) ?_)
      rw [show (((l.length : Int)) == 0) = false by simp; intro e; subst e; simp at hp]
      refine tstep ?_
      simp only [spec_RangeOf.j0]
      refine tneg (by simp) (tpos (by omega) ?_)
      refine trec (σ := Nat) (fun i k => spec_RangeOf.l0 k (loUpto l (rd_T31 l 0).f0 i) (hiUpto l (rd_T31 l 0).f0 i) l (l.length : Int) (i : Int)) (fun i => l.length - i) (fun i => i ≤ l.length) (fun _ r => r = (loUpto l (rd_T31 l 0).f0 l.length, hiUpto l (rd_T31 l 0).f0 l.length, true)) ?_ 0 (Nat.zero_le _)
      intro i hi ih
      simp only [spec_RangeOf.l0, l1Most_eq, l1LeastMn_eq, Option.bind_some, wrap64_id (x := (i : Int) + 1) (by omega) (by omega)]
      refine tite (fun c => ?_) (fun c => tsome (by rw [show i = l.length by omega]))
      refine tpos (by omega) (tpos c ?_)
      have := ih (i + 1) (by omega) (by omega)
      simpa [loUpto, hiUpto] using this
    · unfold impl_RangeOf.f
      refine tbind (isScore_tot l hl) (fun b hb => tpos (hb.2 hg) ?_)
      rw [show (((l.length : Int)) == 0) = false by simp; intro e; subst e; simp at hp]
      refine tstep ?_
      simp only [impl_RangeOf.j0]
      refine tneg (by simp) ?_
      have e1 := loUpto_same l hg (l.length - 1) (by omega)
      have e2 := hiUpto_same l hg (l.length - 1) (by omega)
      rw [show l.length - 1 + 1 = l.length by omega] at e1 e2
      rw [← e1, ← e2]
      refine trec (σ := Nat) (fun i k => impl_RangeOf.l0 k (loUpto l 96 i) (hiUpto l 24 i) l (l.length : Int) (i : Int)) (fun i => l.length - i) (fun i => i ≤ l.length) (fun _ r => r = (loUpto l 96 l.length, hiUpto l 24 l.length, true)) ?_ 0 (Nat.zero_le _)
      intro i hi ih
      simp only [impl_RangeOf.l0, wrap64_id (x := (i : Int) + 1) (by omega) (by omega)]
      refine tite (fun c => ?_) (fun c => tsome (by rw [show i = l.length by omega]))
      refine tpos (by omega) (tpos c ?_)
      have := ih (i + 1) (by omega) (by omega)
      simpa [loUpto, hiUpto] using this
  · have he : ntGood l → (((l.length : Int)) == 0) = true := fun g => by
      have : l.length = 0 := Classical.byContradiction fun h => hg ⟨g, by omega⟩
      simp [this]
    refine ⟨(0, 0, false), ?_, ?_⟩
    · unfold spec_RangeOf.f
      refine tbind (ntGood_tot l hl) (fun b hb => tite (fun c => ?_) (fun c => sF))
      rw [he (hb.1 c)]
      exact sF
    · unfold impl_RangeOf.f
      refine tbind (isScore_tot l hl) (fun b hb => tite (fun c => ?_) (fun c => iF))
      rw [he (hb.1 c)]
      exact iF
def inpl {α : Type} (f : α → α) (l : List α) (i : Nat) : List α := (l.take i).map f ++ l.drop i
theorem inpl_len {α : Type} (f : α → α) (l : List α) (i : Nat) (h : i ≤ l.length) : (inpl f l i).length = l.length := by
  unfold inpl; simp; omega
theorem inpl_zero {α : Type} (f : α → α) (l : List α) : inpl f l 0 = l := by simp [inpl]
theorem inpl_end {α : Type} (f : α → α) (l : List α) : inpl f l l.length = l.map f := by simp [inpl]
theorem inpl_at {α : Type} (z : α) (f : α → α) (l : List α) (i : Nat) (h : i < l.length) : (inpl f l i).getD i z = l.getD i z := by
  unfold inpl
  have h1 : ((l.take i).map f).length = i := by simp; omega
  rw [List.getD, List.getElem?_append_right (by omega), h1, Nat.sub_self]
  simp [List.getD, h]
theorem inpl_set {α : Type} (z : α) (f : α → α) (l : List α) (i : Nat) (h : i < l.length) : (inpl f l i).set i (f (l.getD i z)) = inpl f l (i + 1) := by
  unfold inpl
  have h1 : ((l.take i).map f).length = i := by simp; omega
  rw [List.set_append_right _ _ (by omega), h1, Nat.sub_self, List.drop_eq_getElem_cons h, List.set_cons_zero, List.take_succ_eq_append_getElem h, List.map_append, List.append_assoc]
  simp [List.getD, h]
theorem take_up {α β : Type} (z : α) (f : α → β) (l : List α) (i : Nat) (h : i < l.length) : (l.take (i + 1)).map f = (l.take i).map f ++ [f (l.getD i z)] := by
  rw [List.take_succ_eq_append_getElem h, List.map_append]
  simp [List.getD, h]
theorem cloneNote (l : List S31) (hl : l.length ≤ 1048576) : clone_Note.f l = some l := by
  unfold clone_Note.f
  simp only [Option.bind_some]
  rw [if_pos (by simp; omega)]
  rfl
def mvE (a b : Int) (x : S31) : S31 := ⟨x.f0 + a, x.f1 + b, x.f2⟩
def ntPost (l : List S31) (r : List S31 × Bool) : Prop := (ntGood l ∧ r = (l, true)) ∨ (¬ ntGood l ∧ r = ([], false))
theorem ntPost.det {l : List S31} {r r' : List S31 × Bool} (h : ntPost l r) (h' : ntPost l r') : r = r' := by
  rcases h with ⟨x, e⟩ | ⟨x, e⟩ <;> rcases h' with ⟨x', e'⟩ | ⟨x', e'⟩
  · rw [e, e']
  · exact absurd x x'
  · exact absurd x' x
  · rw [e, e']
theorem ntChanged_tot (l : List S31) (hg : ntGood l) (a b : Int) (a1 : -1000 ≤ a) (a2 : a ≤ 1000) (b1 : -1000 ≤ b) (b2 : b ≤ 1000) : Tot (fun k => spec_ntChanged.f k l a b) (fun r => ntPost (l.map (mvE a b)) r) := by
  have hn := hg.2
  unfold spec_ntChanged.f
  refine trec (σ := Nat) (fun i k => spec_ntChanged.l0 k a b ((l.take i).map (mvE a b)) l (l.length : Int) (i : Int)) (fun i => l.length - i) (fun i => i ≤ l.length) (fun _ r => ntPost (l.map (mvE a b)) r) ?_ 0 (Nat.zero_le _)
  intro i hi ih
  simp only [spec_ntChanged.l0, wrap64_id (x := (i : Int) + 1) (by omega) (by omega)]
  refine tite (fun c => ?_) (fun c => ?_)
  · have hc := (hg.1 i (by omega) c).1
    unfold OkNote at hc
    refine tpos (by omega) (tpos c (tpos (by simp; omega) ?_))
    rw [wrap64_id (x := (rd_T31 l (i : Int)).f0 + a) (by omega) (by omega), wrap64_id (x := (rd_T31 l (i : Int)).f1 + b) (by omega) (by omega)]
    have h := ih (i + 1) (by omega) (by omega)
    rw [take_up z31 (mvE a b) l i (by omega)] at h
    simpa [mvE, rd_T31] using h
  · obtain rfl : i = l.length := by omega
    rw [List.take_length]
    exact tbind (ntGood_tot _ (by simp; omega)) (fun b hb => tite (fun c => tsome (.inl ⟨hb.1 c, rfl⟩)) (fun c => tsome (.inr ⟨fun h => c (hb.2 h), rfl⟩)))
theorem scoreOf_tot (l : List S31) (hl : l.length ≤ 1048576) : Tot (fun k => impl_scoreOf.f k l) (fun r => (ntGood l ∧ r = (l, true)) ∨ (¬ ntGood l ∧ r = ([], false))) := by
  unfold impl_scoreOf.f
  exact tbind (isScore_tot l hl) (fun b hb => tite (fun c => tsome (.inl ⟨hb.1 c, rfl⟩)) (fun c => tsome (.inr ⟨fun h => c (hb.2 h), rfl⟩)))
theorem implMoveScore_tot (l : List S31) (hg : ntGood l) (p : Int) (p1 : -999 ≤ p) (p2 : p ≤ 999) : Tot (fun k => impl_MoveScore.l0 k p l (l.length : Int) 0) (fun r => ntPost (l.map (mvE 0 p)) r) := by
  have hn := hg.2
  have key := trec (σ := Nat) (fun i k => impl_MoveScore.l0 k p (inpl (mvE 0 p) l i) (l.length : Int) (i : Int)) (fun i => l.length - i) (fun i => i ≤ l.length) (fun _ r => ntPost (l.map (mvE 0 p)) r) ?_ 0 (Nat.zero_le _)
  · rw [inpl_zero] at key
    exact key
  · intro i hi ih
    have hlen := inpl_len (mvE 0 p) l i hi
    simp only [impl_MoveScore.l0, wrap64_id (x := (i : Int) + 1) (by omega) (by omega)]
    refine tite (fun c => ?_) (fun c => ?_)
    · have hc := (hg.1 i (by omega) c).1
      unfold OkNote at hc
      have e : rd_T31 (inpl (mvE 0 p) l i) (i : Int) = rd_T31 l (i : Int) := by
        unfold rd_T31
        exact inpl_at _ (mvE 0 p) l i (by omega)
      refine tpos (by omega) (tpos (by omega) ?_)
      rw [e, wrap64_id (x := (rd_T31 l (i : Int)).f1 + p) (by omega) (by omega)]
      have h := ih (i + 1) (by omega) (by omega)
      rw [← inpl_set z31 (mvE 0 p) l i (by omega)] at h
      simpa [mvE, rd_T31] using h
    · obtain rfl : i = l.length := by omega
      rw [inpl_end]
      exact tbind (scoreOf_tot _ (by simp; omega)) (fun r hr => tsome hr)
theorem moveScore_agree (l : List S31) (p : Int) (hl : l.length ≤ 1048576) : ∃ r, Tot (fun k => spec_MoveScore.f k l p) (fun y => y = r) ∧ Tot (fun k => impl_MoveScore.f k l p) (fun y => y = r) ∧ r.1.length ≤ 1048576 := by
  have iF : Tot (fun k => impl_MoveScore.j0 k l p true) (fun y => y = ([], false)) := by
    refine tstep ?_
    simp only [impl_MoveScore.j0, if_true]
    exact tsome rfl
  by_cases hg : ntGood l ∧ -999 ≤ p ∧ p ≤ 999
  · obtain ⟨hg, hp⟩ := hg
    obtain ⟨r, hr, hR⟩ := ntChanged_tot l hg 0 p (by omega) (by omega) (by omega) (by omega)
    refine ⟨r, ?_, ?_, ?_⟩
    · unfold spec_MoveScore.f
      refine tbind (ntGood_tot l hl) (fun b h => tpos (h.2 hg) ?_)
      simp only [l1In_eq, Option.bind_some, decide_eq_true_eq]
      refine tpos hp ?_
      refine tbind (⟨r, hr, rfl⟩ : Tot (fun k => spec_ntChanged.f k l 0 p) (fun y => y = r)) (fun _ e => ?_); subst e
      exact tsome rfl
    · unfold impl_MoveScore.f
      refine tbind (isScore_tot l hl) (fun b h => tpos (h.2 hg) (tneg (by omega) ?_))
      rw [decide_eq_false (show ¬ p > 999 by omega)]
      refine tstep ?_
      simp only [impl_MoveScore.j0, cloneNote l hl, Option.bind_some]
      exact tneg (by simp) (tmono (implMoveScore_tot l hg p hp.1 hp.2) (fun y hy => hy.det hR))
    · rcases hR with ⟨_, rfl⟩ | ⟨_, rfl⟩ <;> simp
      exact hl
  · refine ⟨([], false), ?_, ?_, by simp⟩
    · unfold spec_MoveScore.f
      refine tbind (ntGood_tot l hl) (fun b h => tite (fun c => ?_) (fun c => tsome rfl))
      simp only [l1In_eq, Option.bind_some, decide_eq_true_eq]
      exact tneg (fun hh => hg ⟨h.1 c, hh⟩) (tsome rfl)
    · unfold impl_MoveScore.f
      refine tbind (isScore_tot l hl) (fun b h => tite (fun c => tite (fun c2 => iF) (fun c2 => ?_)) (fun c => iF))
      rw [decide_eq_true (show p > 999 from Classical.byContradiction fun hh => hg ⟨h.1 c, by omega⟩)]
      exact iF
theorem implTransposeScore_tot (l : List S31) (hg : ntGood l) (p : Int) (p1 : -72 ≤ p) (p2 : p ≤ 72) : Tot (fun k => impl_TransposeScore.l0 k p l (l.length : Int) 0) (fun r => ntPost (l.map (mvE p 0)) r) := by
  have hn := hg.2
  have key := trec (σ := Nat) (fun i k => impl_TransposeScore.l0 k p (inpl (mvE p 0) l i) (l.length : Int) (i : Int)) (fun i => l.length - i) (fun i => i ≤ l.length) (fun _ r => ntPost (l.map (mvE p 0)) r) ?_ 0 (Nat.zero_le _)
  · rw [inpl_zero] at key
    exact key
  · intro i hi ih
    have hlen := inpl_len (mvE p 0) l i hi
    simp only [impl_TransposeScore.l0, wrap64_id (x := (i : Int) + 1) (by omega) (by omega)]
    refine tite (fun c => ?_) (fun c => ?_)
    · have hc := (hg.1 i (by omega) c).1
      unfold OkNote at hc
      have e : rd_T31 (inpl (mvE p 0) l i) (i : Int) = rd_T31 l (i : Int) := by
        unfold rd_T31
        exact inpl_at _ (mvE p 0) l i (by omega)
      refine tpos (by omega) (tpos (by omega) ?_)
      rw [e, wrap64_id (x := (rd_T31 l (i : Int)).f0 + p) (by omega) (by omega)]
      have h := ih (i + 1) (by omega) (by omega)
      rw [← inpl_set z31 (mvE p 0) l i (by omega)] at h
      simpa [mvE, rd_T31] using h
    · obtain rfl : i = l.length := by omega
      rw [inpl_end]
      exact tbind (scoreOf_tot _ (by simp; omega)) (fun r hr => tsome hr)
theorem transposeScore_agree (l : List S31) (p : Int) (hl : l.length ≤ 1048576) : ∃ r, Tot (fun k => spec_TransposeScore.f k l p) (fun y => y = r) ∧ Tot (fun k => impl_TransposeScore.f k l p) (fun y => y = r) ∧ r.1.length ≤ 1048576 := by
  have iF : Tot (fun k => impl_TransposeScore.j0 k l p true) (fun y => y = ([], false)) := by
    refine tstep ?_
    simp only [impl_TransposeScore.j0, if_true]
    exact tsome rfl
  by_cases hg : ntGood l ∧ -72 ≤ p ∧ p ≤ 72
  · obtain ⟨hg, hp⟩ := hg
    obtain ⟨r, hr, hR⟩ := ntChanged_tot l hg p 0 (by omega) (by omega) (by omega) (by omega)
    refine ⟨r, ?_, ?_, ?_⟩
    · unfold spec_TransposeScore.f
      refine tbind (ntGood_tot l hl) (fun b h => tpos (h.2 hg) ?_)
      simp only [l1In_eq, Option.bind_some, decide_eq_true_eq]
      refine tpos hp ?_
      refine tbind (⟨r, hr, rfl⟩ : Tot (fun k => spec_ntChanged.f k l p 0) (fun y => y = r)) (fun _ e => ?_); subst e
      exact tsome rfl
    · unfold impl_TransposeScore.f
      refine tbind (isScore_tot l hl) (fun b h => tpos (h.2 hg) (tneg (by omega) ?_))
      rw [decide_eq_false (show ¬ p > 72 by omega)]
      refine tstep ?_
      simp only [impl_TransposeScore.j0, cloneNote l hl, Option.bind_some]
      exact tneg (by simp) (tmono (implTransposeScore_tot l hg p hp.1 hp.2) (fun y hy => hy.det hR))
    · rcases hR with ⟨_, rfl⟩ | ⟨_, rfl⟩ <;> simp
      exact hl
  · refine ⟨([], false), ?_, ?_, by simp⟩
    · unfold spec_TransposeScore.f
      refine tbind (ntGood_tot l hl) (fun b h => tite (fun c => ?_) (fun c => tsome rfl))
      simp only [l1In_eq, Option.bind_some, decide_eq_true_eq]
      exact tneg (fun hh => hg ⟨h.1 c, hh⟩) (tsome rfl)
    · unfold impl_TransposeScore.f
      refine tbind (isScore_tot l hl) (fun b h => tite (fun c => tite (fun c2 => iF) (fun c2 => ?_)) (fun c => iF))
      rw [decide_eq_true (show p > 72 from Classical.byContradiction fun hh => hg ⟨h.1 c, by omega⟩)]
      exact iF
def quPost (o : List S31) (r : List S31 × Bool) : Prop := (ntGood o ∧ r = (o, true)) ∨ (¬ ntGood o ∧ r = ([], false))
theorem quPost.det {o : List S31} {r r' : List S31 × Bool} (h : quPost o r) (h' : quPost o r') : r = r' := by
  rcases h with ⟨x, e⟩ | ⟨x, e⟩ <;> rcases h' with ⟨x', e'⟩ | ⟨x', e'⟩
  · rw [e, e']
  · exact absurd x x'
  · exact absurd x' x
  · rw [e, e']
def putL (n : Int) : List Int → List Int
  | [] => [n]
  | x :: xs => if x < n then x :: putL n xs else if x = n then x :: xs else n :: x :: xs
theorem tlet {α β : Type} {v : α} {g : Nat → α → Option β} {Q : β → Prop} (h : Tot (fun k => g k v) Q) : Tot (fun k => (some v).bind fun y => g k y) Q := h
theorem putL_perm (n : Int) (l : List Int) (h : n ∉ l) : (putL n l).Perm (n :: l) := by
  induction l with
  | nil => exact List.Perm.refl _
  | cons x xs ih =>
    unfold putL
    split
    · exact ((ih (fun hm => h (List.mem_cons_of_mem _ hm))).cons x).trans (List.Perm.swap n x xs)
    · split
      · rename_i e; exact absurd (by rw [e]; exact List.mem_cons_self) h
      · exact List.Perm.refl _
theorem mem_putL (n y : Int) (l : List Int) : y ∈ putL n l ↔ y = n ∨ y ∈ l := by
  induction l with
  | nil => simp [putL]
  | cons x xs ih =>
    unfold putL
    split
    · rw [List.mem_cons, ih, List.mem_cons]; constructor <;> (intro h; rcases h with h | h | h <;> simp [h])
    · split
      · rename_i e; rw [List.mem_cons]; constructor
        · intro h; exact .inr h
        · intro h; rcases h with h | h
          · exact .inl (by rw [h, e])
          · exact h
      · rw [List.mem_cons]
theorem putL_sorted (n : Int) (l : List Int) (h : l.Pairwise (· < ·)) : (putL n l).Pairwise (· < ·) := by
  induction l with
  | nil => simp [putL]
  | cons x xs ih =>
    rw [List.pairwise_cons] at h
    unfold putL
    split
    · rename_i c
      rw [List.pairwise_cons]
      refine ⟨fun y hy => ?_, ih h.2⟩
      rcases (mem_putL n y xs).1 hy with e | e
      · rw [e]; exact c
      · exact h.1 y e
    · split
      · exact List.pairwise_cons.2 h
      · refine List.pairwise_cons.2 ⟨fun y hy => ?_, List.pairwise_cons.2 h⟩
        rcases List.mem_cons.1 hy with e | e
        · rw [e]; omega
        · have := h.1 y e; omega
def putAll (l : List Int) : List Int := l.foldl (fun acc x => putL x acc) []
theorem putAll_sorted (l : List Int) : (putAll l).Pairwise (· < ·) := by
  unfold putAll
  suffices h : ∀ (l acc : List Int), acc.Pairwise (· < ·) → (l.foldl (fun acc x => putL x acc) acc).Pairwise (· < ·) from h l [] List.Pairwise.nil
  intro l
  induction l with
  | nil => intro acc h; exact h
  | cons x xs ih => intro acc h; exact ih _ (putL_sorted x acc h)
theorem putAll_mem (l : List Int) (y : Int) : y ∈ putAll l ↔ y ∈ l := by
  unfold putAll
  suffices h : ∀ (l acc : List Int), y ∈ l.foldl (fun acc x => putL x acc) acc ↔ y ∈ l ∨ y ∈ acc from (h l []).trans (by simp)
  intro l
  induction l with
  | nil => intro acc; simp
  | cons x xs ih =>
    intro acc
    rw [List.foldl_cons, ih, mem_putL, List.mem_cons]
    constructor
    · rintro (h | h | h)
      · exact .inl (.inr h)
      · exact .inl (.inl h)
      · exact .inr h
    · rintro ((h | h) | h)
      · exact .inr (.inl h)
      · exact .inl h
      · exact .inr (.inr h)
theorem putAll_perm (l : List Int) (h : l.Nodup) : (putAll l).Perm l := by
  unfold putAll
  suffices hh : ∀ (l acc : List Int), (∀ x ∈ l, x ∉ acc) → l.Nodup → (l.foldl (fun acc x => putL x acc) acc).Perm (l ++ acc) from (hh l [] (fun x _ => by simp) h).trans (by rw [List.append_nil])
  intro l
  induction l with
  | nil => intro acc _ _; exact List.Perm.refl _
  | cons x xs ih =>
    intro acc ha hn
    rw [List.nodup_cons] at hn
    rw [List.foldl_cons]
    refine (ih (putL x acc) (fun y hy hm => ?_) hn.2).trans ?_
    · rcases (mem_putL x y acc).1 hm with e | e
      · exact hn.1 (e ▸ hy)
      · exact ha y (List.mem_cons_of_mem _ hy) e
    · refine ((putL_perm x acc (ha x List.mem_cons_self)).append_left xs).trans ?_
      exact List.perm_middle
theorem sorted_unique (l m : List Int) (h1 : l.Pairwise (· ≤ ·)) (h2 : m.Pairwise (· ≤ ·)) (h : l.Perm m) : l = m :=
  List.Perm.eq_of_pairwise (fun a b _ _ x y => Int.le_antisymm x y) h1 h2 h
theorem sortI_sorted (l : List Int) : (l.mergeSort fun x y => decide (x ≤ y)).Pairwise (· ≤ ·) := by
  have := List.pairwise_mergeSort (le := fun x y : Int => decide (x ≤ y)) (fun a b c => by simp only [decide_eq_true_eq]; omega) (fun a b => by simp only [Bool.or_eq_true, decide_eq_true_eq]; omega) l
  exact this.imp (fun h => by simpa using h)
theorem sortI_putAll (l : List Int) (h : l.Nodup) : (l.mergeSort fun x y => decide (x ≤ y)) = putAll l :=
  sorted_unique _ _ (sortI_sorted l) ((putAll_sorted l).imp (fun h => Int.le_of_lt h)) ((List.mergeSort_perm l _).trans (putAll_perm l h).symm)
theorem sort_Ints_eq (l : List Int) (h : l.length ≤ 1048576) : sort_Ints.f l = some (l.mergeSort fun x y => decide (x ≤ y)) := by
  unfold sort_Ints.f
  rw [if_pos (Nat.lt_of_le_of_lt h (by decide))]
def souAt (l : List S31) (s : Int) (i : Int) : Prop := (rd_T31 l i).f1 ≤ s ∧ s < (rd_T31 l i).f1 + (rd_T31 l i).f2
instance (l : List S31) (s i : Int) : Decidable (souAt l s i) := inferInstanceAs (Decidable (_ ∧ _))
def souI (l : List S31) (s : Int) : Nat → List Int
  | 0 => []
  | i + 1 => if souAt l s i then souI l s i ++ [(rd_T31 l i).f0] else souI l s i
theorem souI_len (l : List S31) (s : Int) (i : Nat) : (souI l s i).length ≤ i := by
  induction i with
  | zero => simp [souI]
  | succ i ih => unfold souI; split <;> (try rw [List.length_append, List.length_singleton]) <;> omega
theorem souI_mem (l : List S31) (s : Int) (i : Nat) (y : Int) (h : y ∈ souI l s i) : ∃ j : Nat, j < i ∧ souAt l s j ∧ (rd_T31 l j).f0 = y := by
  induction i with
  | zero => simp [souI] at h
  | succ i ih =>
    unfold souI at h
    split at h
    · rename_i c
      rcases List.mem_append.1 h with h | h
      · obtain ⟨j, a, b⟩ := ih h; exact ⟨j, by omega, b⟩
      · exact ⟨i, by omega, c, (List.mem_singleton.1 h).symm⟩
    · obtain ⟨j, a, b⟩ := ih h; exact ⟨j, by omega, b⟩
theorem souI_nodup (l : List S31) (s : Int) (hg : ntGood l) (i : Nat) (hi : i ≤ l.length) : (souI l s i).Nodup := by
  induction i with
  | zero => simp [souI]
  | succ i ih =>
    unfold souI
    split
    · rename_i c
      rw [List.nodup_append]
      refine ⟨ih (by omega), by simp, fun a ha b hb e => ?_⟩
      obtain ⟨j, hj, hs, he⟩ := souI_mem l s i a ha
      have hm := (hg.1 i (by omega) (by omega)).2.2 j (by omega) (by omega)
      unfold ntMeet at hm
      unfold souAt at c hs
      have hb' : b = (rd_T31 l i).f0 := by simpa using hb
      exact hm ⟨by rw [he, e, hb'], by omega⟩
    · exact ih (by omega)
theorem implSou_tot (l : List S31) (hg : ntGood l) (s : Int) : Tot (fun k => impl_SoundingAt.l0 k s [] l (l.length : Int) 0) (fun r => r = (putAll (souI l s l.length), true)) := by
  have hn := hg.2
  refine trec (σ := Nat) (fun i k => impl_SoundingAt.l0 k s (souI l s i) l (l.length : Int) (i : Int)) (fun i => l.length - i) (fun i => i ≤ l.length) (fun _ r => r = (putAll (souI l s l.length), true)) ?_ 0 (Nat.zero_le _)
  intro i hi ih
  have hlen := souI_len l s i
  simp only [impl_SoundingAt.l0, wrap64_id (x := (i : Int) + 1) (by omega) (by omega)]
  refine tite (fun c => ?_) (fun c => ?_)
  · have ho := (hg.1 i (by omega) c).1
    have next := ih (i + 1) (by omega) (by omega)
    refine tpos (by omega) (tpos c ?_)
    have skip : ¬ souAt l s i → Tot (fun k => impl_SoundingAt.l0 k s (souI l s i) l (l.length : Int) ((i : Int) + 1)) (fun r => r = (putAll (souI l s l.length), true)) := fun c3 => by
      rw [show souI l s (i + 1) = souI l s i by conv => lhs; unfold souI; rw [if_neg c3]] at next
      simpa using next
    refine tite (fun c2 => ?_) (fun c2 => skip (fun h => c2 h.1))
    rw [noteEnd_eq _ _ _ ho]
    refine tlet ?_
    refine tite (fun c3 => tpos (Nat.lt_of_le_of_lt hlen (by omega)) ?_) (fun c3 => skip (fun h => c3 h.2))
    rw [show souI l s (i + 1) = souI l s i ++ [(rd_T31 l i).f0] by conv => lhs; unfold souI; rw [if_pos ⟨c2, c3⟩]] at next
    simpa using next
  · obtain rfl : i = l.length := by omega
    rw [sort_Ints_eq _ (by omega), sortI_putAll _ (souI_nodup l s hg _ (Nat.le_refl _))]
    exact tlet (tsome rfl)
def decText (n : Nat) : ByteArray := ⟨(Lib.decDigits n).toArray⟩
theorem decText_small (u : Nat) (h : u < 10) : decText u = strOfNums ([(wrap64 (48 + (u : Int))) % 256] : List Int) := by
  unfold decText Lib.decDigits strOfNums
  rw [dif_pos h]
  have e : (wrap64 (48 + (u : Int))) % 256 = ((48 + u : Nat) : Int) := by unfold wrap64; omega
  rw [e]
  rfl
theorem decText_big (u : Nat) (h : ¬ u < 10) (h2 : u < 1000000000) : decText u = decText (u / 10) ++ strOfNums ([(wrap64 (48 + ((u % 10 : Nat) : Int))) % 256] : List Int) := by
  have e : (wrap64 (48 + ((u % 10 : Nat) : Int))) % 256 = ((48 + u % 10 : Nat) : Int) := by unfold wrap64; omega
  rw [e]
  have e1 : Lib.decDigits u = Lib.decDigits (u / 10) ++ [UInt8.ofNat (48 + u % 10)] := by
    conv => lhs; unfold Lib.decDigits
    rw [dif_neg h]
  unfold decText strOfNums
  rw [e1]
  apply ByteArray.ext
  simp
  rw [show (48 + (u : Int) % 10).toNat = 48 + u % 10 by omega, UInt8.ofNat_add]
  rfl
theorem decText_size (u : Nat) (h : u < 1000000000) : (decText u).size ≤ 9 ∧ 1 ≤ (decText u).size := by
  have key : ∀ (d u : Nat), u < 10 ^ (d + 1) → d ≤ 8 → (decText u).size ≤ d + 1 ∧ 1 ≤ (decText u).size := by
    intro d
    induction d with
    | zero => intro u hu _; rw [decText_small u (by omega)]; exact ⟨Nat.le_refl _, Nat.le_refl _⟩
    | succ d ih =>
      intro u hu hd
      by_cases h10 : u < 10
      · rw [decText_small u h10]
        exact ⟨by show 1 ≤ _; omega, Nat.le_refl _⟩
      · have hlt : u < 1000000000 := Nat.lt_of_lt_of_le hu (Nat.pow_le_pow_right (by omega) (show d + 1 + 1 ≤ 9 by omega))
        rw [decText_big u h10 hlt, ByteArray.size_append]
        have h1 := ih (u / 10) (by rw [Nat.pow_succ] at hu; omega) (by omega)
        have h2 : (strOfNums ([(wrap64 (48 + ((u % 10 : Nat) : Int))) % 256] : List Int)).size = 1 := rfl
        omega
  exact key 8 u (by omega) (by omega)
theorem l1Num_tot (u : Nat) (h : u < 1000000000) : Tot (fun k => spec_l1Num.f k (u : Int)) (fun r => r = decText u) := by
  induction u using Nat.strongRecOn with
  | ind u ih =>
    refine tstep ?_
    simp only [spec_l1Num.f]
    refine tite (fun c => tsome (decText_small u (by omega)).symm) (fun c => ?_)
    have e1 : wrap64 (Int.tdiv (u : Int) 10) = ((u / 10 : Nat) : Int) := by
      rw [Int.tdiv_eq_ediv_of_nonneg (by omega)]; unfold wrap64; omega
    have e2 : Int.tmod (u : Int) 10 = ((u % 10 : Nat) : Int) := by rw [Int.tmod_eq_emod_of_nonneg (by omega)]; omega
    rw [e1, e2]
    refine tbind (ih (u / 10) (by omega) (by omega)) (fun _ e => ?_); subst e
    show Tot (fun _ => if (decText (u / 10)).size + (strOfNums ([(wrap64 (48 + ((u % 10 : Nat) : Int))) % 256] : List Int)).size ≤ 9223372036854775807 then some (decText (u / 10) ++ strOfNums ([(wrap64 (48 + ((u % 10 : Nat) : Int))) % 256] : List Int)) else none) _
    have hs := (decText_size (u / 10) (by omega)).1
    have h2 : (strOfNums ([(wrap64 (48 + ((u % 10 : Nat) : Int))) % 256] : List Int)).size = 1 := rfl
    exact tpos (by omega) (tsome (decText_big u (by omega) h).symm)
def noteNames : List ByteArray := [(⟨#[99]⟩ : ByteArray), (⟨#[99, 35]⟩ : ByteArray), (⟨#[100]⟩ : ByteArray), (⟨#[100, 35]⟩ : ByteArray), (⟨#[101]⟩ : ByteArray), (⟨#[102]⟩ : ByteArray), (⟨#[102, 35]⟩ : ByteArray), (⟨#[103]⟩ : ByteArray), (⟨#[103, 35]⟩ : ByteArray), (⟨#[97]⟩ : ByteArray), (⟨#[97, 35]⟩ : ByteArray), (⟨#[98]⟩ : ByteArray)]
def pitchText (a : Int) : ByteArray := rdOf ByteArray.empty noteNames (a % 12) ++ decText (a / 12).toNat
theorem noteName_size (i : Int) (h0 : 0 ≤ i) (h1 : i < 12) : (rdOf ByteArray.empty noteNames i).size ≤ 2 ∧ 1 ≤ (rdOf ByteArray.empty noteNames i).size := by
  obtain rfl | rfl | rfl | rfl | rfl | rfl | rfl | rfl | rfl | rfl | rfl | rfl : i = 0 ∨ i = 1 ∨ i = 2 ∨ i = 3 ∨ i = 4 ∨ i = 5 ∨ i = 6 ∨ i = 7 ∨ i = 8 ∨ i = 9 ∨ i = 10 ∨ i = 11 := by omega
  all_goals decide
theorem pitchText_size (a : Int) (h0 : 24 ≤ a) (h1 : a ≤ 96) : (pitchText a).size ≤ 11 ∧ 1 ≤ (pitchText a).size := by
  unfold pitchText
  rw [ByteArray.size_append]
  have h := noteName_size (a % 12) (by omega) (by omega)
  have h2 := decText_size (a / 12).toNat (by omega)
  omega
theorem ntName_tot (a : Int) (h0 : 24 ≤ a) (h1 : a ≤ 96) : Tot (fun k => spec_ntName.f k a) (fun r => r = pitchText a) := by
  have e1 : wrap64 (Int.tdiv a 12) = (((a / 12).toNat : Nat) : Int) := by rw [Int.tdiv_eq_ediv_of_nonneg (by omega)]; unfold wrap64; omega
  have e2 : Int.tmod a 12 = a % 12 := Int.tmod_eq_emod_of_nonneg (by omega)
  unfold spec_ntName.f spec_ntNames.f
  simp only [e1, e2, Option.bind_some]
  refine tpos (by omega) (tpos (by simp; omega) ?_)
  refine tbind (l1Num_tot (a / 12).toNat (by omega)) (fun _ e => ?_); subst e
  have h := noteName_size (a % 12) (by omega) (by omega)
  have h2 := decText_size (a / 12).toNat (by omega)
  exact tpos (by unfold noteNames at h; omega) (tsome rfl)
theorem pitchName_eq (a : Int) (h0 : 24 ≤ a) (h1 : a ≤ 96) : impl_pitchName.f a = some (pitchText a) := by
  have e1 : wrap64 (Int.tdiv a 12) = (((a / 12).toNat : Nat) : Int) := by rw [Int.tdiv_eq_ediv_of_nonneg (by omega)]; unfold wrap64; omega
  have e2 : Int.tmod a 12 = a % 12 := Int.tmod_eq_emod_of_nonneg (by omega)
  unfold impl_pitchName.f itoa.f
  simp only [e1, e2, Option.bind_some]
  have h := noteName_size (a % 12) (by omega) (by omega)
  have h2 := decText_size (a / 12).toNat (by omega)
  unfold noteNames at h
  unfold decText at h2
  rw [if_pos (by omega), if_pos (by simp; omega), if_pos (by omega), if_pos (by omega)]
  simp only [Option.bind_some, Int.toNat_natCast]
  rw [if_pos (by omega)]
  rfl
theorem join_snoc (xs : List (List UInt8)) (y sep : List UInt8) (h : xs ≠ []) : Lib.join (xs ++ [y]) sep = Lib.join xs sep ++ (sep ++ y) := by
  cases xs with
  | nil => exact absurd rfl h
  | cons x r =>
    rw [List.cons_append, Lib.join_cons, Lib.join_cons, List.append_assoc]
    congr 1
    simp [Lib.joinTail]
theorem join_eq (xs : List ByteArray) (s : ByteArray) (hx : xs.length ≤ 1048576) (he : Lib.join (xs.map (·.data.toList)) [32] = s.data.toList) (hs : s.size ≤ 140737488355328) : join.f xs (⟨#[32]⟩ : ByteArray) = some (s, xs) := by
  have e32 : ((⟨#[32]⟩ : ByteArray)).data.toList = [32] := rfl
  have hl : s.data.toList.length = s.size := by rw [Array.length_toList]; rfl
  unfold join.f
  rw [e32, he, if_pos (by omega), if_pos (by omega)]
theorem itoal_eq (a : Int) (h0 : 0 ≤ a) (h1 : a < 1000000) : itoal.f a = some (decText a.toNat) := by
  unfold itoal.f
  rw [if_pos h0, if_pos h1]
  rfl
theorem words2_tot (a b : Int) (h0 : 0 ≤ a) (h1 : a < 1000000) (h2 : 0 ≤ b) (h3 : b < 1000000) : Tot (fun k => impl_words.f k [a, b]) (fun r => r = (decText a.toNat ++ (⟨#[32]⟩ : ByteArray)) ++ decText b.toNat) := by
  have hd := (decText_size a.toNat (by omega)).1
  have hd2 := (decText_size b.toNat (by omega)).1
  have z32 : (⟨#[32]⟩ : ByteArray).size = 1 := rfl
  unfold impl_words.f
  refine tstep ?_
  simp only [impl_words.l0]
  refine tpos (by simp) (tpos (Int.le_refl _) (tpos (by simp) ?_))
  rw [show rd [a, b] 0 = a from rfl, itoal_eq a h0 h1]
  simp only [Option.bind_some]
  refine tpos (by simp) ?_
  rw [show wrap64 (0 + 1) = 1 from wrap64_id (by omega) (by omega)]
  refine tstep ?_
  simp only [impl_words.l0]
  refine tpos (by simp) (tpos (by omega) (tpos (by simp) ?_))
  rw [show rd [a, b] 1 = b from rfl, itoal_eq b h2 h3]
  simp only [Option.bind_some]
  refine tpos (by simp) ?_
  rw [show wrap64 (1 + 1) = 2 from wrap64_id (by omega) (by omega)]
  refine tstep ?_
  simp only [impl_words.l0]
  refine tneg (by simp) ?_
  rw [List.nil_append, join_eq ([decText a.toNat] ++ [decText b.toNat]) ((decText a.toNat ++ (⟨#[32]⟩ : ByteArray)) ++ decText b.toNat) (by simp) (by
    rw [List.map_append, List.map_cons, List.map_nil, List.map_cons, List.map_nil, join_snoc _ _ _ (by simp), Lib.join_one]
    simp) (by simp only [ByteArray.size_append, z32]; omega)]
  exact tsome rfl
def noteText (x : S31) : ByteArray := ((((pitchText x.f0 ++ (⟨#[32]⟩ : ByteArray)) ++ decText x.f1.toNat) ++ (⟨#[32]⟩ : ByteArray)) ++ decText x.f2.toNat) ++ (⟨#[10]⟩ : ByteArray)
def scUpto (l : List S31) : Nat → ByteArray
  | 0 => ⟨#[]⟩
  | i + 1 => scUpto l i ++ noteText (rd_T31 l i)
theorem noteText_size (l : List S31) (hg : ntGood l) (i : Nat) (h : i < l.length) : (noteText (rd_T31 l i)).size ≤ 40 := by
  have o := (hg.1 i (by omega) (by omega)).1
  unfold OkNote at o
  have n1 := (pitchText_size (rd_T31 l i).f0 (by omega) (by omega)).1
  have n2 := (decText_size (rd_T31 l i).f1.toNat (by omega)).1
  have n3 := (decText_size (rd_T31 l i).f2.toNat (by omega)).1
  have z32 : (⟨#[32]⟩ : ByteArray).size = 1 := rfl
  have z10 : (⟨#[10]⟩ : ByteArray).size = 1 := rfl
  unfold noteText
  simp only [ByteArray.size_append, z32, z10]
  omega
theorem scUpto_size (l : List S31) (hg : ntGood l) (i : Nat) (h : i ≤ l.length) : (scUpto l i).size ≤ 40 * i := by
  induction i with
  | zero => exact Nat.le_refl _
  | succ i ih =>
    have h1 := ih (by omega)
    have h2 := noteText_size l hg i (by omega)
    unfold scUpto
    rw [ByteArray.size_append]
    omega
theorem ntText_tot (l : List S31) (hg : ntGood l) : Tot (fun k => spec_ntText.f k l) (fun r => r = scUpto l l.length) := by
  have hn := hg.2
  have z32 : (⟨#[32]⟩ : ByteArray).size = 1 := rfl
  have z10 : (⟨#[10]⟩ : ByteArray).size = 1 := rfl
  unfold spec_ntText.f
  refine trec (σ := Nat) (fun i k => spec_ntText.l0 k (scUpto l i) l (l.length : Int) (i : Int)) (fun i => l.length - i) (fun i => i ≤ l.length) (fun _ r => r = scUpto l l.length) ?_ 0 (Nat.zero_le _)
  intro i hi ih
  simp only [spec_ntText.l0]
  refine tite (fun c => ?_) (fun c => ?_)
  · have o := (hg.1 i (by omega) c).1
    unfold OkNote at o
    have n1 := (pitchText_size (rd_T31 l i).f0 (by omega) (by omega)).1
    have n2 := (decText_size (rd_T31 l i).f1.toNat (by omega)).1
    have n3 := (decText_size (rd_T31 l i).f2.toNat (by omega)).1
    have hs := scUpto_size l hg i hi
    have e1 : (((rd_T31 l i).f1.toNat : Nat) : Int) = (rd_T31 l i).f1 := by omega
    have e2 : (((rd_T31 l i).f2.toNat : Nat) : Int) = (rd_T31 l i).f2 := by omega
    have t1 := l1Num_tot (rd_T31 l i).f1.toNat (by omega)
    have t2 := l1Num_tot (rd_T31 l i).f2.toNat (by omega)
    rw [e1] at t1
    rw [e2] at t2
    refine tpos (by omega) (tpos c ?_)
    refine tbind (ntName_tot _ (by omega) (by omega)) (fun _ e => ?_); subst e
    refine tpos (by omega) ?_
    refine tbind t1 (fun _ e => ?_); subst e
    refine tpos (by simp only [ByteArray.size_append, z32]; omega) (tpos (by simp only [ByteArray.size_append, z32]; omega) ?_)
    refine tbind t2 (fun _ e => ?_); subst e
    refine tpos (by simp only [ByteArray.size_append, z32]; omega) (tpos (by simp only [ByteArray.size_append, z32]; omega) (tpos (by simp only [ByteArray.size_append, z32, z10]; omega) ?_))
    rw [wrap64_id (by omega) (by omega)]
    exact ih (i + 1) (by omega) (by omega)
  · obtain rfl : i = l.length := by omega
    exact tsome rfl
theorem implScoreText_tot (l : List S31) (hg : ntGood l) : Tot (fun k => impl_ScoreText.l0 k (⟨#[]⟩ : ByteArray) l (l.length : Int) 0) (fun r => r = (scUpto l l.length, true)) := by
  have hn := hg.2
  have z32 : (⟨#[32]⟩ : ByteArray).size = 1 := rfl
  have z10 : (⟨#[10]⟩ : ByteArray).size = 1 := rfl
  refine trec (σ := Nat) (fun i k => impl_ScoreText.l0 k (scUpto l i) l (l.length : Int) (i : Int)) (fun i => l.length - i) (fun i => i ≤ l.length) (fun _ r => r = (scUpto l l.length, true)) ?_ 0 (Nat.zero_le _)
  intro i hi ih
  simp only [impl_ScoreText.l0]
  refine tite (fun c => ?_) (fun c => ?_)
  · have o := (hg.1 i (by omega) c).1
    unfold OkNote at o
    have n1 := (pitchText_size (rd_T31 l i).f0 (by omega) (by omega)).1
    have n2 := (decText_size (rd_T31 l i).f1.toNat (by omega)).1
    have n3 := (decText_size (rd_T31 l i).f2.toNat (by omega)).1
    have hs := scUpto_size l hg i hi
    refine tpos (by omega) (tpos c ?_)
    rw [pitchName_eq _ (by omega) (by omega)]
    simp only [Option.bind_some]
    refine tpos (by omega) ?_
    refine tbind (words2_tot _ _ (by omega) (by omega) (by omega) (by omega)) (fun _ e => ?_); subst e
    refine tpos (by simp only [ByteArray.size_append, z32]; omega) (tpos (by simp only [ByteArray.size_append, z32]; omega) (tpos (by simp only [ByteArray.size_append, z32, z10]; omega) ?_))
    rw [wrap64_id (by omega) (by omega)]
    have := ih (i + 1) (by omega) (by omega)
    have e : scUpto l i ++ (((pitchText (rd_T31 l i).f0 ++ (⟨#[32]⟩ : ByteArray)) ++ ((decText (rd_T31 l i).f1.toNat ++ (⟨#[32]⟩ : ByteArray)) ++ decText (rd_T31 l i).f2.toNat)) ++ (⟨#[10]⟩ : ByteArray)) = scUpto l (i + 1) := by
      conv => rhs; unfold scUpto noteText
      simp only [ByteArray.append_assoc]
    rw [e]
    exact this
  · obtain rfl : i = l.length := by omega
    exact tsome rfl
def sp (c : UInt8) : List UInt8 → List (List UInt8)
  | [] => [[]]
  | b :: l => if b = c then [] :: sp c l else (b :: (sp c l).headD []) :: (sp c l).tail
theorem sp_ne (c : UInt8) (l : List UInt8) : sp c l ≠ [] := by
  cases l with
  | nil => simp [sp]
  | cons b l => unfold sp; split <;> simp
theorem sp_cons (c : UInt8) (l : List UInt8) : ∃ x r, sp c l = x :: r := by
  cases h : sp c l with
  | nil => exact absurd h (sp_ne c l)
  | cons x r => exact ⟨x, r, rfl⟩
theorem sp_join (c : UInt8) (l : List UInt8) : Lib.join (sp c l) [c] = l := by
  induction l with
  | nil => rfl
  | cons b l ih =>
    obtain ⟨x, r, e⟩ := sp_cons c l
    rw [e, Lib.join_cons] at ih
    unfold sp
    by_cases h : b = c
    · subst h
      rw [if_pos rfl, e, Lib.join_cons]
      simp only [Lib.joinTail, List.map_cons, List.flatten_cons, List.nil_append, List.cons_append] at ih ⊢
      rw [ih]
    · rw [if_neg h, e, Lib.join_cons]
      simp only [List.headD_cons, List.tail_cons, List.cons_append]
      rw [ih]
theorem sp_none (c : UInt8) (x : List UInt8) (h : c ∉ x) : sp c x = [x] := by
  induction x with
  | nil => rfl
  | cons b l ih =>
    have hb : b ≠ c := fun e => h (by simp [e])
    unfold sp
    rw [if_neg hb, ih (fun e => h (by simp [e]))]
    rfl
theorem sp_hit (c : UInt8) (x l : List UInt8) (h : c ∉ x) : sp c (x ++ c :: l) = x :: sp c l := by
  induction x with
  | nil => simp [sp]
  | cons b x ih =>
    have hb : b ≠ c := fun e => h (by simp [e])
    rw [List.cons_append]
    have ih' := ih (fun e => h (by simp [e]))
    conv => lhs; unfold sp
    rw [if_neg hb, ih']
    rfl
theorem sp_of_join (c : UInt8) (ws : List (List UInt8)) (h0 : ws ≠ []) (h : ∀ w ∈ ws, c ∉ w) : sp c (Lib.join ws [c]) = ws := by
  induction ws with
  | nil => exact absurd rfl h0
  | cons x r ih =>
    rw [Lib.join_cons]
    cases r with
    | nil => simp only [Lib.joinTail, List.map_nil, List.flatten_nil, List.append_nil]; exact sp_none c x (h x (by simp))
    | cons y r =>
      have := ih (by simp) (fun w hw => h w (List.mem_cons_of_mem _ hw))
      rw [Lib.join_cons] at this
      simp only [Lib.joinTail, List.map_cons, List.flatten_cons, List.append_assoc, List.nil_append, List.cons_append] at this ⊢
      rw [sp_hit c x _ (h x (by simp)), this]
theorem find_c (c : UInt8) (l : List UInt8) : c ∉ l ∨ ∃ x r, c ∉ x ∧ l = x ++ c :: r := by
  induction l with
  | nil => exact .inl (by simp)
  | cons b l ih =>
    by_cases h : b = c
    · subst h; exact .inr ⟨[], l, by simp, rfl⟩
    · rcases ih with ih | ⟨x, r, h1, rfl⟩
      · exact .inl (fun hc => (List.mem_cons.1 hc).elim (fun e => h e.symm) ih)
      · exact .inr ⟨b :: x, r, fun hc => (List.mem_cons.1 hc).elim (fun e => h e.symm) h1, rfl⟩
theorem index_hit1 (c : UInt8) (x r : List UInt8) (h : c ∉ x) : Lib.index (x ++ c :: r) [c] = x.length := by
  induction x with
  | nil => simp [Lib.index, List.isPrefixOf]
  | cons b x ih =>
    have hb : b ≠ c := fun e => h (by simp [e])
    have hp : ([c] : List UInt8).isPrefixOf (b :: (x ++ c :: r)) = false := by simp [List.isPrefixOf, Ne.symm hb]
    rw [List.cons_append, Lib.index, hp, ih (fun e => h (by simp [e]))]
    simp
theorem splitK_sp (c : UInt8) : ∀ (n : Nat) (l : List UInt8), l.length ≤ n → Lib.splitK [c] 0 (l.count c) l = sp c l
  | n, l, hn => by
    rcases find_c c l with h | ⟨x, r, h, rfl⟩
    · rw [List.count_eq_zero.2 h, sp_none c l h]; rfl
    · have hc : (x ++ c :: r).count c = r.count c + 1 := by rw [List.count_append, List.count_eq_zero.2 h, List.count_cons_self, Nat.zero_add]
      cases n with
      | zero => simp at hn
      | succ n =>
        have hr : r.length ≤ n := by simp at hn; omega
        rw [hc, Lib.splitK, index_hit1 c x r h, sp_hit c x r h, ← splitK_sp c n r hr]
        rw [if_neg (by simp)]
        simp
theorem splitB_sp (c : UInt8) (s : ByteArray) : (Lib.splitB ⟨#[c]⟩ 0 (Lib.countB s ⟨#[c]⟩) s).map (·.data.toList) = sp c s.data.toList := by
  rw [Lib.splitB_data]
  show Lib.splitK [c] 0 (Lib.count s.data.toList [c]) s.data.toList = _
  rw [Lib.count_one, splitK_sp c _ _ (Nat.le_refl _)]
theorem ex_data (s : ByteArray) (a b : Nat) : (s.extract a b).data.toList = (s.data.toList.drop a).take (b - a) := by
  rw [ByteArray.data_extract, Array.toList_extract, List.extract_eq_take_drop]
theorem bs_len (s : ByteArray) : s.data.toList.length = s.size := by rw [Array.length_toList]; rfl
theorem bt_eq (s : ByteArray) (i : Nat) (h : i < s.size) : bt s (i : Int) = ((s.data.toList.getD i 0).toNat : Int) := by
  have hl : i < s.data.toList.length := by rw [bs_len]; exact h
  unfold bt
  rw [dif_pos (by simpa using h), List.getD_eq_getElem?_getD, List.getElem?_eq_getElem hl]
  rfl
theorem take_at (l : List UInt8) (i : Nat) (h : i < l.length) : l.take (i + 1) = l.take i ++ [l.getD i 0] := by
  rw [List.getD_eq_getElem?_getD, List.getElem?_eq_getElem h, List.take_add_one, List.getElem?_eq_getElem h]
  rfl
theorem split_eq (s : ByteArray) (c : UInt8) (hs : s.size ≤ 1048576) : ∃ r, strings_Split.f s ⟨#[c]⟩ = some r ∧ r.map (·.data.toList) = sp c s.data.toList := by
  refine ⟨Lib.splitB ⟨#[c]⟩ 0 (Lib.countB s ⟨#[c]⟩) s, ?_, splitB_sp c s⟩
  unfold strings_Split.f
  rw [if_pos (show 1 ≤ (⟨#[c]⟩ : ByteArray).size from Nat.le_refl 1), if_pos (by omega)]
theorem snoc_ind {motive : List UInt8 → Prop} (nil : motive []) (append_singleton : ∀ (l : List UInt8) (b : UInt8), motive l → motive (l ++ [b])) (l : List UInt8) : motive l := by
  have key : ∀ l : List UInt8, motive l.reverse := by
    intro l
    induction l with
    | nil => exact nil
    | cons b l ih => rw [List.reverse_cons]; exact append_singleton _ _ ih
  have := key l.reverse
  rwa [List.reverse_reverse] at this
def dval (l : List UInt8) : Nat := l.foldl (fun a b => 10 * a + (b.toNat - 48)) 0
def Dig (b : UInt8) : Prop := 48 ≤ b.toNat ∧ b.toNat ≤ 57
def Can (l : List UInt8) : Prop := l ≠ [] ∧ (∀ b ∈ l, Dig b) ∧ (l.getD 0 0 ≠ 48 ∨ l.length = 1)
theorem dval_snoc (l : List UInt8) (b : UInt8) : dval (l ++ [b]) = 10 * dval l + (b.toNat - 48) := by simp [dval, List.foldl_append]
theorem dval_lt (l : List UInt8) (h : ∀ b ∈ l, Dig b) : dval l < 10 ^ l.length := by
  induction l using snoc_ind with
  | nil => simp [dval]
  | append_singleton l b ih =>
    have := ih (fun x hx => h x (by simp [hx]))
    have hb := h b (by simp)
    unfold Dig at hb
    rw [dval_snoc, List.length_append, List.length_singleton, Nat.pow_succ]
    omega
theorem dval_pos (l : List UInt8) (h : ∀ b ∈ l, Dig b) (h0 : l ≠ []) (h1 : l.getD 0 0 ≠ 48) : 1 ≤ dval l := by
  induction l using snoc_ind with
  | nil => exact absurd rfl h0
  | append_singleton l b ih =>
    have hb := h b (by simp)
    unfold Dig at hb
    rw [dval_snoc]
    cases l with
    | nil =>
      simp only [List.nil_append, List.getD_cons_zero] at h1
      have : b.toNat ≠ 48 := fun e => h1 (UInt8.toNat_inj.1 e)
      omega
    | cons x r =>
      have := ih (fun y hy => h y (by simp at hy ⊢; rcases hy with rfl | hy <;> simp [*])) (by simp) (by simpa using h1)
      omega
theorem can_dec (l : List UInt8) (h : Can l) : Lib.decDigits (dval l) = l := by
  induction l using snoc_ind with
  | nil => exact absurd rfl h.1
  | append_singleton l b ih =>
    have hb := h.2.1 b (by simp)
    unfold Dig at hb
    rw [dval_snoc]
    cases l with
    | nil =>
      unfold Lib.decDigits
      rw [dif_pos (by simp [dval]; omega)]
      simp only [List.nil_append, List.cons.injEq, and_true]
      apply UInt8.toNat_inj.1
      simp [dval]
      omega
    | cons x r =>
      have hd : ∀ y ∈ x :: r, Dig y := fun y hy => h.2.1 y (by simp at hy ⊢; rcases hy with rfl | hy <;> simp [*])
      have h48 : (x :: r).getD 0 0 ≠ 48 := by
        rcases h.2.2 with h3 | h3
        · simpa using h3
        · simp at h3
      have h1 := dval_pos (x :: r) hd (by simp) h48
      have h2 := ih ⟨by simp, hd, .inl h48⟩
      unfold Lib.decDigits
      rw [dif_neg (by omega), show (10 * dval (x :: r) + (b.toNat - 48)) / 10 = dval (x :: r) by omega, h2]
      congr 1
      simp only [List.cons.injEq, and_true]
      apply UInt8.toNat_inj.1
      simp
      omega
theorem dec_can (n : Nat) : Can (Lib.decDigits n) ∧ dval (Lib.decDigits n) = n ∧ (1 ≤ n → (Lib.decDigits n).getD 0 0 ≠ 48) := by
  induction n using Nat.strongRecOn with
  | ind n ih =>
    unfold Lib.decDigits
    by_cases h : n < 10
    · rw [dif_pos h]
      have e : (UInt8.ofNat (48 + n)).toNat = 48 + n := by simp; omega
      refine ⟨⟨by simp, fun b hb => ?_, .inr rfl⟩, ?_, fun h1 => ?_⟩
      · simp only [List.mem_singleton] at hb
        subst hb
        unfold Dig; rw [e]; omega
      · show 10 * 0 + ((UInt8.ofNat (48 + n)).toNat - 48) = n
        rw [e]; omega
      · simp only [List.getD_cons_zero]
        intro hc
        have := congrArg UInt8.toNat hc
        rw [e] at this
        have : (48 : UInt8).toNat = 48 := rfl
        omega
    · rw [dif_neg h]
      obtain ⟨⟨h1, h2, h3⟩, h4, h5⟩ := ih (n / 10) (by omega)
      have e : (UInt8.ofNat (48 + n % 10)).toNat = 48 + n % 10 := by simp; omega
      have h6 := h5 (by omega)
      have hg : (Lib.decDigits (n / 10) ++ [UInt8.ofNat (48 + n % 10)]).getD 0 0 = (Lib.decDigits (n / 10)).getD 0 0 := by
        cases hh : Lib.decDigits (n / 10) with
        | nil => exact absurd hh h1
        | cons a b => rfl
      refine ⟨⟨by simp, fun b hb => ?_, .inl (by rw [hg]; exact h6)⟩, ?_, fun _ => by rw [hg]; exact h6⟩
      · rcases List.mem_append.1 hb with hb | hb
        · exact h2 b hb
        · simp only [List.mem_singleton] at hb
          subst hb
          unfold Dig; rw [e]; omega
      · rw [dval_snoc, h4, e]; omega
theorem dval_take (l : List UInt8) (i : Nat) (h : i < l.length) : dval (l.take (i + 1)) = 10 * dval (l.take i) + ((l.getD i 0).toNat - 48) := by rw [take_at l i h, dval_snoc]
theorem getD_mem (l : List UInt8) (i : Nat) (h : i < l.length) : l.getD i 0 ∈ l := by
  rw [List.getD_eq_getElem?_getD, List.getElem?_eq_getElem h]
  exact List.getElem_mem h
theorem dval_take_lt (l : List UInt8) (i n : Nat) (h : ∀ b ∈ l.take i, Dig b) (hi : i ≤ n) : dval (l.take i) < 10 ^ n := by
  have h1 := dval_lt (l.take i) h
  have h2 : (l.take i).length ≤ n := by rw [List.length_take]; omega
  exact Nat.lt_of_lt_of_le h1 (Nat.pow_le_pow_right (by omega) h2)
theorem dig_step (l : List UInt8) (i : Nat) (h : i < l.length) (hd : ∀ b ∈ l.take i, Dig b) (h1 : Dig (l.getD i 0)) : ∀ b ∈ l.take (i + 1), Dig b := by
  rw [take_at l i h]
  intro b hb
  rcases List.mem_append.1 hb with hb | hb
  · exact hd b hb
  · simp only [List.mem_singleton] at hb; rw [hb]; exact h1
theorem dec_wrap (a : Nat) (b : UInt8) (ha : a < 10 ^ 9) (hb : Dig b) : wrap64 (wrap64 (10 * (a : Int)) + (((b.toNat : Int) - 48) % 256)) = ((10 * a + (b.toNat - 48) : Nat) : Int) := by
  unfold Dig at hb
  rw [wrap64_id (x := 10 * (a : Int)) (by omega) (by omega), wrap64_id (by omega) (by omega)]
  omega
theorem decimal_loop (s : ByteArray) (hs : s.size ≤ 9) : Tot (fun k => impl_decimal.l0 k s 0 0) (fun r => ((∀ b ∈ s.data.toList, Dig b) → r = ((dval s.data.toList : Int), true)) ∧ (r.2 = true → (∀ b ∈ s.data.toList, Dig b) ∧ r.1 = (dval s.data.toList : Int))) := by
  have hlen := bs_len s
  refine trec (σ := Nat) (fun i k => impl_decimal.l0 k s (dval (s.data.toList.take i) : Int) (i : Int)) (fun i => s.size - i) (fun i => i ≤ s.size ∧ ∀ b ∈ s.data.toList.take i, Dig b)
    (fun _ r => ((∀ b ∈ s.data.toList, Dig b) → r = ((dval s.data.toList : Int), true)) ∧ (r.2 = true → (∀ b ∈ s.data.toList, Dig b) ∧ r.1 = (dval s.data.toList : Int))) ?_ 0 ⟨Nat.zero_le _, by simp⟩
  rintro i ⟨h1, h2⟩ ih
  simp only [impl_decimal.l0]
  refine tite (fun c => ?_) (fun c => ?_)
  · have hi : i < s.size := by omega
    have hm := getD_mem s.data.toList i (by omega)
    refine tpos (by omega) ?_
    rw [bt_eq s i hi]
    refine tite (fun c2 => tsome ⟨fun h => absurd (h _ hm) (fun q => by unfold Dig at q; omega), fun h => by simp at h⟩) (fun c2 => ?_)
    refine tite (fun c3 => tsome ⟨fun h => absurd (h _ hm) (fun q => by unfold Dig at q; omega), fun h => by simp at h⟩) (fun c3 => ?_)
    have hd : Dig (s.data.toList.getD i 0) := by unfold Dig; omega
    rw [dec_wrap _ _ (dval_take_lt _ i 9 h2 (by omega)) hd, ← dval_take _ i (by omega), wrap64_id (by omega) (by omega)]
    exact ih (i + 1) ⟨by omega, dig_step _ i (by omega) h2 hd⟩ (by omega)
  · obtain rfl : i = s.size := by omega
    have e : s.data.toList.take s.size = s.data.toList := List.take_of_length_le (by omega)
    rw [e] at h2 ⊢
    exact tsome ⟨fun _ => rfl, fun _ => ⟨h2, rfl⟩⟩
theorem decimal_tot (s : ByteArray) (hs : s.size ≤ 1048576) : Tot (fun k => impl_decimal.f k s) (fun r => (Can s.data.toList ∧ s.size ≤ 9 → r = ((dval s.data.toList : Int), true)) ∧ (r.2 = true → Can s.data.toList ∧ s.size ≤ 9 ∧ r.1 = (dval s.data.toList : Int))) := by
  have hlen := bs_len s
  have hno : ¬ (Can s.data.toList ∧ s.size ≤ 9) → Tot (fun k => impl_decimal.j0 k s true) (fun r => (Can s.data.toList ∧ s.size ≤ 9 → r = ((dval s.data.toList : Int), true)) ∧ (r.2 = true → Can s.data.toList ∧ s.size ≤ 9 ∧ r.1 = (dval s.data.toList : Int))) := fun h => by
    refine tstep ?_
    simp only [impl_decimal.j0]
    exact tpos trivial (tsome ⟨fun g => absurd g h, fun g => by simp at g⟩)
  have hgo : s.size ≤ 9 → s.size ≠ 0 → (s.data.toList.getD 0 0 ≠ 48 ∨ s.size = 1) → Tot (fun k => impl_decimal.j0 k s false) (fun r => (Can s.data.toList ∧ s.size ≤ 9 → r = ((dval s.data.toList : Int), true)) ∧ (r.2 = true → Can s.data.toList ∧ s.size ≤ 9 ∧ r.1 = (dval s.data.toList : Int))) := fun h9 h0 h48 => by
    refine tstep ?_
    simp only [impl_decimal.j0]
    refine tneg (by simp) ?_
    refine tmono (decimal_loop s h9) (fun r hr => ⟨fun g => hr.1 g.1.2.1, fun g => ?_⟩)
    obtain ⟨g1, g2⟩ := hr.2 g
    exact ⟨⟨fun e => h0 (by rw [← hlen, e]; rfl), g1, by rw [hlen]; exact h48⟩, h9, g2⟩
  unfold impl_decimal.f
  rw [Go.ByteArray.toList_eq]
  refine tite (fun c => hno (fun h => h.1.1 c)) (fun c => ?_)
  have h0 : s.size ≠ 0 := fun e => c (List.eq_nil_of_length_eq_zero (by omega))
  refine tite (fun c2 => hno (fun h => by omega)) (fun c2 => ?_)
  refine tpos (by omega) ?_
  have hb := bt_eq s 0 (by omega)
  rw [show ((0 : Nat) : Int) = 0 from rfl] at hb
  rw [hb]
  refine tite (fun c3 => ?_) (fun c3 => hgo (by omega) h0 (.inl (fun e => c3 (by rw [e]; rfl))))
  by_cases h1 : (s.size : Int) > 1
  · rw [decide_eq_true h1]
    refine hno (fun h => ?_)
    rcases h.1.2.2 with h | h
    · exact h (UInt8.toNat_inj.1 (by have : (48 : UInt8).toNat = 48 := rfl; omega))
    · omega
  · rw [decide_eq_false h1]
    exact hgo (by omega) h0 (.inr (by omega))
theorem decText_bytes (n : Nat) : (decText n).data.toList = Lib.decDigits n := rfl
theorem decText_can (n : Nat) : Can (decText n).data.toList ∧ dval (decText n).data.toList = n := ⟨(dec_can n).1, (dec_can n).2.1⟩
def NS (b : UInt8) : Prop := b ≠ 32 ∧ b ≠ 42 ∧ b ≠ 47 ∧ b ≠ 10
theorem dig_ns (b : UInt8) (h : Dig b) : NS b := by
  unfold Dig at h
  refine ⟨?_, ?_, ?_, ?_⟩ <;> (rintro rfl; revert h; decide)
theorem decText_ns (n : Nat) : ∀ b ∈ (decText n).data.toList, NS b := fun b hb => dig_ns b ((decText_can n).1.2.1 b hb)
instance (b : UInt8) : Decidable (NS b) := by unfold NS; exact inferInstance
theorem noteName_ns (i : Int) (h0 : 0 ≤ i) (h1 : i < 12) : ∀ b ∈ (rdOf ByteArray.empty noteNames i).data.toList, NS b := by
  obtain rfl | rfl | rfl | rfl | rfl | rfl | rfl | rfl | rfl | rfl | rfl | rfl : i = 0 ∨ i = 1 ∨ i = 2 ∨ i = 3 ∨ i = 4 ∨ i = 5 ∨ i = 6 ∨ i = 7 ∨ i = 8 ∨ i = 9 ∨ i = 10 ∨ i = 11 := by omega
  all_goals decide
theorem noteName_inj : ∀ i j : Fin 12, (rdOf ByteArray.empty noteNames (i.val : Int)).data.toList = (rdOf ByteArray.empty noteNames (j.val : Int)).data.toList → i = j := by decide
theorem pitchText_bytes (p : Int) : (pitchText p).data.toList = (rdOf ByteArray.empty noteNames (p % 12)).data.toList ++ (decText (p / 12).toNat).data.toList := by unfold pitchText; simp
theorem pitchText_ns (p : Int) (h0 : 24 ≤ p) (h1 : p ≤ 96) : ∀ b ∈ (pitchText p).data.toList, NS b := by
  rw [pitchText_bytes]
  intro b hb
  rcases List.mem_append.1 hb with hb | hb
  · exact noteName_ns (p % 12) (by omega) (by omega) b hb
  · exact decText_ns _ b hb
theorem decText_one (u : Nat) (h : u < 10) : (decText u).data.toList = [UInt8.ofNat (48 + u)] := by rw [decText_bytes]; unfold Lib.decDigits; rw [dif_pos h]
theorem pitchText_inj (p q : Int) (h0 : 24 ≤ p) (h1 : p ≤ 96) (h2 : 24 ≤ q) (h3 : q ≤ 96) (h : (pitchText p).data.toList = (pitchText q).data.toList) : p = q := by
  rw [pitchText_bytes, pitchText_bytes, decText_one (p / 12).toNat (by omega), decText_one (q / 12).toNat (by omega)] at h
  obtain ⟨e1, e2⟩ := List.append_inj' h rfl
  have e3 := noteName_inj ⟨(p % 12).toNat, by omega⟩ ⟨(q % 12).toNat, by omega⟩ (by
    show (rdOf ByteArray.empty noteNames (((p % 12).toNat : Nat) : Int)).data.toList = (rdOf ByteArray.empty noteNames (((q % 12).toNat : Nat) : Int)).data.toList
    rw [show (((p % 12).toNat : Nat) : Int) = p % 12 by omega, show (((q % 12).toNat : Nat) : Int) = q % 12 by omega]; exact e1)
  have e4 : (p % 12).toNat = (q % 12).toNat := congrArg Fin.val e3
  simp only [List.cons.injEq, and_true] at e2
  have e5 := congrArg UInt8.toNat e2
  simp at e5
  omega
def fpf (w : List UInt8) : Nat → Int → Option Int
  | 0, _ => none
  | n + 1, p => if (pitchText p).data.toList = w then some p else fpf w n (p + 1)
theorem fpf_hit (q : Int) : ∀ (n : Nat) (p : Int), p ≤ q → q < p + n → 24 ≤ p → p + n ≤ 97 → fpf (pitchText q).data.toList n p = some q
  | 0, p, h1, h2, h3, h4 => by omega
  | n + 1, p, h1, h2, h3, h4 => by
    unfold fpf
    by_cases c : (pitchText p).data.toList = (pitchText q).data.toList
    · rw [if_pos c, pitchText_inj p q (by omega) (by omega) (by omega) (by omega) c]
    · rw [if_neg c]
      have : p ≠ q := fun e => c (by rw [e])
      exact fpf_hit q n (p + 1) (by omega) (by omega) (by omega) (by omega)
theorem pitchNamed_loop (s : ByteArray) : ∀ (n : Nat) (p : Int), p + n = 97 → 24 ≤ p → Tot (fun k => impl_pitchNamed.l0 k s p) (fun r => r = (fpf s.data.toList n p).getD 0)
  | 0, p, h, h0 => by
    refine tstep ?_
    simp only [impl_pitchNamed.l0]
    exact tneg (by omega) (tsome rfl)
  | n + 1, p, h, h0 => by
    refine tstep ?_
    simp only [impl_pitchNamed.l0]
    refine tpos (by omega) ?_
    rw [pitchName_eq p (by omega) (by omega)]
    simp only [Option.bind_some]
    rw [Go.ByteArray.toList_eq, Go.ByteArray.toList_eq, wrap64_id (by omega) (by omega)]
    unfold fpf
    refine tite (fun c => tsome (by rw [if_pos c]; rfl)) (fun c => ?_)
    rw [if_neg c]
    exact pitchNamed_loop s n (p + 1) (by omega) (by omega)
theorem pitchNamed_tot (s : ByteArray) : Tot (fun k => impl_pitchNamed.f k s) (fun r => r = (fpf s.data.toList 73 24).getD 0) := pitchNamed_loop s 73 24 (by omega) (by omega)
theorem ns_no1 (c : UInt8) (hc : ¬ NS c) (l : List UInt8) (h : ∀ b ∈ l, NS b) : c ∉ l := fun hm => hc (h c hm)
theorem mem_len (c : UInt8) (l : List UInt8) : ∀ w ∈ sp c l, w.length ≤ l.length := by
  induction l with
  | nil => simp [sp]
  | cons b l ih =>
    obtain ⟨x, t, e⟩ := sp_cons c l
    unfold sp
    rw [e] at ih ⊢
    split
    · intro w hw
      rcases List.mem_cons.1 hw with rfl | hw
      · simp
      · have := ih w hw; simp; omega
    · intro w hw
      simp only [List.headD_cons, List.tail_cons] at hw
      rcases List.mem_cons.1 hw with rfl | hw
      · have := ih x (by simp); simp; omega
      · have := ih w (List.mem_cons_of_mem _ hw); simp; omega
theorem rd_mem_size1 {r : List ByteArray} {c : UInt8} {l : List UInt8} (h : r.map (·.data.toList) = sp c l) (i : Int) : (rdOf ByteArray.empty r i).size ≤ l.length := by
  unfold rdOf
  rw [List.getD_eq_getElem?_getD]
  cases hh : r[i.toNat]? with
  | none => exact Nat.zero_le _
  | some a =>
    have : a.data.toList ∈ sp c l := by rw [← h]; exact List.mem_map_of_mem (List.mem_of_getElem? hh)
    have := mem_len c l _ this
    rw [bs_len] at this
    exact this
theorem dec6 (n : Nat) (h : n < 1000000) : (decText n).size ≤ 6 := by
  have key : ∀ (d u : Nat), u < 10 ^ (d + 1) → d ≤ 5 → (decText u).size ≤ d + 1 := by
    intro d
    induction d with
    | zero => intro u hu _; rw [decText_small u (by omega)]; exact Nat.le_refl _
    | succ d ih =>
      intro u hu hd
      by_cases h10 : u < 10
      · rw [decText_small u h10]; show 1 ≤ _; omega
      · have hlt : u < 1000000 := Nat.lt_of_lt_of_le hu (Nat.pow_le_pow_right (by omega) (show d + 1 + 1 ≤ 6 by omega))
        rw [decText_big u h10 (by omega), ByteArray.size_append]
        have h1 := ih (u / 10) (by rw [Nat.pow_succ] at hu; omega) (by omega)
        have h2 : (strOfNums ([(wrap64 (48 + ((u % 10 : Nat) : Int))) % 256] : List Int)).size = 1 := rfl
        omega
  exact key 5 n (by omega) (by omega)
theorem cut_hit (c : UInt8) (x r : List UInt8) (h : c ∉ x) : Lib.cut (x ++ c :: r) [c] = (x, r, true) := by
  unfold Lib.cut
  rw [index_hit1 c x r h, if_pos (by omega)]
  simp
def lnB (e : S31) : List UInt8 := (pitchText e.f0).data.toList ++ 32 :: ((decText e.f1.toNat).data.toList ++ 32 :: (decText e.f2.toNat).data.toList)
theorem noteText_bytes (e : S31) : (noteText e).data.toList = lnB e ++ [10] := by
  unfold noteText lnB
  simp
theorem rd_nt (l : List S31) (i : Nat) (h : i < l.length) : rd_T31 l (i : Int) = l[i] := by
  unfold rd_T31
  rw [List.getD_eq_getElem?_getD]
  simp [h]
theorem take_nt (l : List S31) (i : Nat) (h : i < l.length) : l.take (i + 1) = l.take i ++ [rd_T31 l (i : Int)] := by
  rw [rd_nt l i h, List.take_add_one, List.getElem?_eq_getElem h]
  rfl
theorem good_mem (l : List S31) (hg : ntGood l) : ∀ e ∈ l, OkNote e.f0 e.f1 e.f2 := by
  intro e he
  obtain ⟨i, hi, rfl⟩ := List.getElem_of_mem he
  have := (hg.1 (i : Int) (by omega) (by omega)).1
  rw [rd_nt l i hi] at this
  exact this
def scB (ls : List (List UInt8)) : List UInt8 := (ls.map (· ++ [10])).flatten
theorem scUpto_bytes (l : List S31) (i : Nat) (h : i ≤ l.length) : (scUpto l i).data.toList = scB ((l.take i).map lnB) := by
  induction i with
  | zero => rfl
  | succ i ih =>
    rw [scUpto, take_nt l i (by omega), List.map_append]
    show (scUpto l i ++ noteText (rd_T31 l i)).data.toList = _
    have e : (scUpto l i ++ noteText (rd_T31 l i)).data.toList = (scUpto l i).data.toList ++ (noteText (rd_T31 l i)).data.toList := by simp
    rw [e, ih (by omega), noteText_bytes]
    simp [scB]
theorem sc_all (l : List S31) : (scUpto l l.length).data.toList = scB (l.map lnB) := by rw [scUpto_bytes l l.length (Nat.le_refl _), List.take_length]
theorem sc_join (ls : List (List UInt8)) (h : ls ≠ []) : scB ls = Lib.join ls [10] ++ [10] := by
  induction ls with
  | nil => exact absurd rfl h
  | cons x r ih =>
    have e : scB (x :: r) = x ++ 10 :: scB r := by simp [scB]
    rw [e]
    cases r with
    | nil => rw [Lib.join_one]; rfl
    | cons y r =>
      have h2 := ih (by simp)
      rw [Lib.join_cons] at h2 ⊢
      simp only [Lib.joinTail, List.map_cons, List.flatten_cons, List.append_assoc, List.nil_append, List.cons_append] at h2 ⊢
      rw [h2]
theorem ns_ten (l : List UInt8) (h : ∀ b ∈ l, NS b) : (10 : UInt8) ∉ l := ns_no1 10 (by decide) l h
theorem ln_ten (e : S31) (h : OkNote e.f0 e.f1 e.f2) : (10 : UInt8) ∉ lnB e := by
  unfold OkNote at h
  intro hm
  unfold lnB at hm
  rcases List.mem_append.1 hm with hm | hm
  · exact ns_ten _ (pitchText_ns _ (by omega) (by omega)) hm
  · rcases List.mem_cons.1 hm with hm | hm
    · exact absurd hm (by decide)
    · rcases List.mem_append.1 hm with hm | hm
      · exact ns_ten _ (decText_ns _) hm
      · rcases List.mem_cons.1 hm with hm | hm
        · exact absurd hm (by decide)
        · exact ns_ten _ (decText_ns _) hm
theorem ln_rd (l : List S31) (i : Nat) (hi : i < l.length) (x : List (List UInt8)) : (l.map lnB ++ x).getD i [] = lnB (rd_T31 l (i : Int)) := by
  rw [List.getD_eq_getElem?_getD, List.getElem?_append_left (by simpa using hi), List.getElem?_map, List.getElem?_eq_getElem hi, rd_nt l i hi]
  rfl
theorem map_rd1 (t : List ByteArray) (l : List (List UInt8)) (h : t.map (·.data.toList) = l) (i : Nat) (hi : i < t.length) : (rdOf ByteArray.empty t (i : Int)).data.toList = l.getD i [] := by
  subst h
  unfold rdOf
  rw [List.getD_eq_getElem?_getD, List.getD_eq_getElem?_getD, List.getElem?_map]
  simp [hi]
theorem suffix_eq (s : ByteArray) (hs : s.size ≤ 1048576) : ∃ b, strings_HasSuffix.f s (⟨#[10]⟩ : ByteArray) = some b ∧ (b = true ↔ ∃ p, s.data.toList = p ++ [10]) := by
  have hlen := bs_len s
  have z : (⟨#[10]⟩ : ByteArray).size = 1 := rfl
  unfold strings_HasSuffix.f stringslite_HasSuffix.f
  rw [z]
  by_cases h : (s.size : Int) ≥ ((1 : Nat) : Int)
  · rw [if_pos h, wrap64_id (x := (s.size : Int) - ((1 : Nat) : Int)) (by omega) (by omega), if_pos (by omega), if_pos (by omega)]
    refine ⟨_, rfl, ?_⟩
    rw [beq_iff_eq, Go.ByteArray.toList_eq, Go.ByteArray.toList_eq, ex_data, show ((s.size : Int) - ((1 : Nat) : Int)).toNat = s.size - 1 by omega]
    have e : s.data.toList = s.data.toList.take (s.size - 1) ++ s.data.toList.drop (s.size - 1) := (List.take_append_drop _ _).symm
    rw [List.take_of_length_le (by rw [List.length_drop]; omega)]
    show s.data.toList.drop (s.size - 1) = [10] ↔ _
    constructor
    · intro h1
      exact ⟨s.data.toList.take (s.size - 1), by rw [h1] at e; exact e⟩
    · rintro ⟨p, hp⟩
      have : p.length = s.size - 1 := by have := congrArg List.length hp; simp at this; omega
      rw [hp, ← this, List.drop_left]
  · rw [if_neg h]
    refine ⟨false, rfl, ⟨fun h => by simp at h, ?_⟩⟩
    rintro ⟨p, hp⟩
    have := congrArg List.length hp
    simp at this
    omega
theorem init_data (s : ByteArray) (p : List UInt8) (h : s.data.toList = p ++ [10]) : (s.extract 0 ((s.size : Int) - 1).toNat).data.toList = p ∧ (s.extract 0 ((s.size : Int) - 1).toNat).size = p.length ∧ s.size = p.length + 1 := by
  have hlen := bs_len s
  have h1 := congrArg List.length h
  rw [List.length_append, List.length_singleton] at h1
  have e : (s.extract 0 ((s.size : Int) - 1).toNat).data.toList = p := by
    rw [ex_data, List.drop_zero, h, show ((s.size : Int) - 1).toNat - 0 = p.length by omega, List.take_left]
  exact ⟨e, by rw [← bs_len, e], by omega⟩
theorem textLines_hit (s : ByteArray) (hs : s.size ≤ 1048576) (p : List UInt8) (h : s.data.toList = p ++ [10]) : ∃ t, impl_textLines.f s = some (t, true) ∧ t.map (·.data.toList) = sp 10 p := by
  have hlen := bs_len s
  obtain ⟨i1, i2, i3⟩ := init_data s p h
  obtain ⟨b, hb, hb2⟩ := suffix_eq s hs
  obtain ⟨t, ht, ht2⟩ := split_eq (s.extract 0 ((s.size : Int) - 1).toNat) 10 (by omega)
  refine ⟨t, ?_, by rw [ht2, i1]⟩
  unfold impl_textLines.f
  rw [Go.ByteArray.toList_eq, if_neg (by rw [h]; simp), hb]
  simp only [Option.bind_some]
  rw [if_pos (hb2.2 ⟨p, h⟩), wrap64_id (x := (s.size : Int) - 1) (by omega) (by omega), if_pos (by omega), if_pos (by omega), ht]
  rfl
theorem numberLine_tot (s : ByteArray) (hs : s.size ≤ 1048576) : Tot (fun k => impl_numberLine.f k s 2) (fun r => (∀ a b : Nat, a < 1000000 → b < 1000000 → s.data.toList = (decText a).data.toList ++ 32 :: (decText b).data.toList → r = ([(a : Int), (b : Int)], true)) ∧ (r.2 = true → ∃ a b : Nat, r.1 = [(a : Int), (b : Int)] ∧ s.data.toList = (decText a).data.toList ++ 32 :: (decText b).data.toList)) := by
  have hlen := bs_len s
  obtain ⟨t, hts, ht⟩ := split_eq s 32 hs
  unfold impl_numberLine.f
  rw [hts]
  simp only [Option.bind_some]
  have two : ∀ a b : Nat, s.data.toList = (decText a).data.toList ++ 32 :: (decText b).data.toList → sp 32 s.data.toList = [(decText a).data.toList, (decText b).data.toList] := by
    intro a b h
    rw [h, sp_hit 32 _ _ (ns_no1 32 (by decide) _ (decText_ns _)), sp_none 32 _ (ns_no1 32 (by decide) _ (decText_ns _))]
  refine tite (fun c => ?_) (fun c => tsome ⟨fun a b _ _ h => ?_, fun h => by simp at h⟩)
  · have z0 := rd_mem_size1 ht 0
    have z1 := rd_mem_size1 ht 1
    obtain ⟨x, y, rfl⟩ : ∃ x y, t = [x, y] := by
      match t, c with
      | [x, y], _ => exact ⟨x, y, rfl⟩
    have e0 : rdOf ByteArray.empty [x, y] 0 = x := rfl
    have e1 : rdOf ByteArray.empty [x, y] 1 = y := rfl
    rw [e0] at z0
    rw [e1] at z1
    refine tstep ?_
    simp only [impl_numberLine.l0]
    refine tpos (by simp) (tpos (by omega) (tpos (by simp) ?_))
    rw [e0]
    refine tbind (decimal_tot x (by omega)) (fun r1 g1 => ?_)
    have hj : Lib.join [x.data.toList, y.data.toList] [32] = s.data.toList := by
      have := sp_join 32 s.data.toList
      rw [← ht] at this
      exact this
    rw [Lib.join_cons] at hj
    simp only [Lib.joinTail, List.map_cons, List.map_nil, List.flatten_cons, List.flatten_nil, List.append_nil, List.cons_append, List.nil_append] at hj
    refine tite (fun k1 => ?_) (fun k1 => tsome ⟨fun a b ha hb h => ?_, fun h => by simp at h⟩)
    · refine tpos (by simp) ?_
      rw [show wrap64 (0 + 1) = 1 from wrap64_id (by omega) (by omega)]
      refine tstep ?_
      simp only [impl_numberLine.l0]
      refine tpos (by simp) (tpos (by omega) (tpos (by simp) ?_))
      rw [e1]
      refine tbind (decimal_tot y (by omega)) (fun r2 g2 => ?_)
      refine tite (fun k2 => ?_) (fun k2 => tsome ⟨fun a b ha hb h => ?_, fun h => by simp at h⟩)
      · refine tpos (by simp) ?_
        rw [show wrap64 (1 + 1) = 2 from wrap64_id (by omega) (by omega)]
        refine tstep ?_
        simp only [impl_numberLine.l0]
        refine tneg (by simp) (tsome ?_)
        obtain ⟨d1, _, d2⟩ := g1.2 k1
        obtain ⟨d3, _, d4⟩ := g2.2 k2
        refine ⟨fun a b ha hb h => ?_, fun _ => ⟨dval x.data.toList, dval y.data.toList, by rw [d2, d4]; rfl, ?_⟩⟩
        · rw [two a b h] at ht
          simp only [List.map_cons, List.map_nil, List.cons.injEq, and_true] at ht
          rw [d2, d4, ht.1, ht.2, (decText_can a).2, (decText_can b).2]
          rfl
        · rw [decText_bytes, decText_bytes, can_dec _ d1, can_dec _ d3]
          exact hj.symm
      · rw [two a b h] at ht
        simp only [List.map_cons, List.map_nil, List.cons.injEq, and_true] at ht
        have q := congrArg List.length ht.2
        rw [bs_len, bs_len] at q
        have := dec6 b hb
        have := g2.1 ⟨by rw [ht.2]; exact (decText_can b).1, by omega⟩
        rw [this] at k2
        exact absurd rfl k2
    · rw [two a b h] at ht
      simp only [List.map_cons, List.map_nil, List.cons.injEq, and_true] at ht
      have q := congrArg List.length ht.1
      rw [bs_len, bs_len] at q
      have := dec6 a ha
      have := g1.1 ⟨by rw [ht.1]; exact (decText_can a).1, by omega⟩
      rw [this] at k1
      exact absurd rfl k1
  · rw [two a b h] at ht
    have := congrArg List.length ht
    simp at this
    omega
theorem toArr1 (l : List UInt8) : (⟨l.toArray⟩ : ByteArray).data.toList = l := rfl
theorem toArr_size1 (l : List UInt8) : (⟨l.toArray⟩ : ByteArray).size = l.length := by rw [← bs_len]
theorem cut_eq1 (a : ByteArray) (c : UInt8) (h : a.size ≤ 1048576) : strings_Cut.f a ⟨#[c]⟩ = some (⟨(Lib.cut a.data.toList [c]).1.toArray⟩, ⟨(Lib.cut a.data.toList [c]).2.1.toArray⟩, (Lib.cut a.data.toList [c]).2.2) := by
  unfold strings_Cut.f
  rw [if_pos (by omega)]
theorem implPS_hit (s : ByteArray) (hs : s.size ≤ 1048576) (l : List S31) (hg : ntGood l) (he : scB (l.map lnB) = s.data.toList) : Tot (fun k => impl_ParseScore.f k s) (fun r => r = (l, true)) := by
  have hlen := bs_len s
  have hn := hg.2
  have hok := good_mem l hg
  have hten : ∀ w ∈ l.map lnB, (10 : UInt8) ∉ w := fun w hw => by obtain ⟨e, h1, rfl⟩ := List.mem_map.1 hw; exact ln_ten e (hok e h1)
  have hlines : ∃ t, impl_textLines.f s = some (t, true) ∧ t.map (·.data.toList) = l.map lnB := by
    by_cases h0 : l = []
    · subst h0
      refine ⟨[], ?_, rfl⟩
      unfold impl_textLines.f
      rw [Go.ByteArray.toList_eq, if_pos (show s.data.toList = [] from he.symm)]
    · have hm : l.map lnB ≠ [] := by simpa using h0
      rw [sc_join _ hm] at he
      obtain ⟨t, h1, h2⟩ := textLines_hit s hs _ he.symm
      exact ⟨t, h1, by rw [h2, sp_of_join 10 _ hm hten]⟩
  obtain ⟨t, h1, ht⟩ := hlines
  have hl : t.length = l.length := by have := congrArg List.length ht; simpa using this
  unfold impl_ParseScore.f
  rw [h1]
  simp only [Option.bind_some]
  refine tpos (by trivial) ?_
  rw [decide_eq_false (by omega)]
  refine tstep ?_
  simp only [impl_ParseScore.j0]
  refine tneg (by simp) ?_
  refine trec (σ := Nat) (fun i k => impl_ParseScore.l0 k (l.take i) t (t.length : Int) (i : Int)) (fun i => l.length - i) (fun i => i ≤ l.length) (fun _ r => r = (l, true)) ?_ 0 (Nat.zero_le _)
  intro i hi ih
  simp only [impl_ParseScore.l0]
  refine tite (fun c => ?_) (fun c => ?_)
  · have hi2 : i < l.length := by omega
    have o := hok (rd_T31 l i) (by rw [rd_nt l i hi2]; exact List.getElem_mem hi2)
    have hw := map_rd1 _ _ ht i (by omega)
    have hr := ln_rd l i hi2 []
    rw [List.append_nil] at hr
    rw [hr] at hw
    unfold OkNote at o
    have n1 := (pitchText_size (rd_T31 l i).f0 (by omega) (by omega)).1
    have n2 := dec6 (rd_T31 l i).f1.toNat (by omega)
    have n3 := dec6 (rd_T31 l i).f2.toNat (by omega)
    have hz := congrArg List.length hw
    unfold lnB at hz
    rw [bs_len, List.length_append, List.length_cons, List.length_append, List.length_cons, bs_len, bs_len, bs_len] at hz
    refine tpos (by omega) (tpos c ?_)
    have hc1 : Lib.cut (rdOf ByteArray.empty t (i : Int)).data.toList [32] = ((pitchText (rd_T31 l i).f0).data.toList, (decText (rd_T31 l i).f1.toNat).data.toList ++ 32 :: (decText (rd_T31 l i).f2.toNat).data.toList, true) := by
      rw [hw]
      unfold lnB
      rw [cut_hit 32 _ _ (ns_no1 32 (by decide) _ (pitchText_ns _ (by omega) (by omega)))]
    rw [cut_eq1 _ 32 (by omega), hc1]
    simp only [Option.bind_some]
    refine tbind (numberLine_tot _ (by rw [toArr_size1, List.length_append, List.length_cons, bs_len, bs_len]; omega)) (fun r2 g2 => ?_)
    have f2 := g2.1 (rd_T31 l i).f1.toNat (rd_T31 l i).f2.toNat (by omega) (by omega) (toArr1 _)
    subst f2
    refine tpos (by trivial) (tpos (by trivial) ?_)
    refine tbind (pitchNamed_tot _) (fun p hp => ?_)
    rw [toArr1, fpf_hit _ 73 24 (by omega) (by omega) (by omega) (by omega)] at hp
    simp only [Option.getD_some] at hp
    subst hp
    refine tpos (by simp) (tpos (by simp) (tpos (by rw [List.length_take]; omega) ?_))
    rw [wrap64_id (by omega) (by omega), show rd [(((rd_T31 l i).f1.toNat : Nat) : Int), (((rd_T31 l i).f2.toNat : Nat) : Int)] 0 = (rd_T31 l i).f1 by show (((rd_T31 l i).f1.toNat : Nat) : Int) = _; omega, show rd [(((rd_T31 l i).f1.toNat : Nat) : Int), (((rd_T31 l i).f2.toNat : Nat) : Int)] 1 = (rd_T31 l i).f2 by show (((rd_T31 l i).f2.toNat : Nat) : Int) = _; omega]
    have := ih (i + 1) (by omega) (by omega)
    rw [take_nt l i hi2] at this
    exact this
  · obtain rfl : i = l.length := by omega
    rw [List.take_length]
    refine tbind (scoreOf_tot l (by omega)) (fun r hr => ?_)
    rcases hr with ⟨_, rfl⟩ | ⟨h, _⟩
    · exact tsome rfl
    · exact absurd hg h
theorem small30 {n : Nat} (h : n ≤ 2000) : n < 5864062014805 := Nat.lt_of_le_of_lt h (by decide)
theorem nsLen (l : List S31) : (Srt.nsort impl_sortedNotes_lt l).length = l.length := Srt.nsort_length l
theorem scoreOf_tot2 (l : List S31) (hl : l.length ≤ 1048576) : Tot (fun k => impl_scoreOf.f k l) (fun y => (ntGood l → y = (l, true)) ∧ (¬ ntGood l → y = ([], false))) := by
  unfold impl_scoreOf.f
  exact tbind (isScore_tot l hl) (fun b hb => tite (fun c => tsome ⟨fun _ => rfl, fun h => absurd (hb.1 c) h⟩) (fun c => tsome ⟨fun h => absurd (hb.2 h) c, fun _ => rfl⟩))
theorem sortedNotes_eq (l : List S31) (hl : l.length ≤ 1000) : impl_sortedNotes.f l = some (Srt.nsort impl_sortedNotes_lt l) := by
  unfold impl_sortedNotes.f
  rw [if_pos (small30 (by omega))]
theorem u64r (x : Int) : 0 ≤ IntKind.u64.wrap x ∧ IntKind.u64.wrap x < 18446744073709551616 := by
  have h : IntKind.u64.wrap x = x % 18446744073709551616 := by first | rfl | (unfold IntKind.wrap; rfl) | simp [IntKind.wrap]
  rw [h]; omega
theorem and255 (x : Int) (h0 : 0 ≤ x) (h1 : x < 18446744073709551616) : 0 ≤ bits .and .u64 x 255 ∧ bits .and .u64 x 255 ≤ 255 := by
  obtain ⟨n, rfl⟩ := Int.eq_ofNat_of_zero_le h0
  have h := bits_and_u64_nat n 255 (by omega) (by omega)
  have h2 : n &&& 255 ≤ 255 := Nat.and_le_right
  rw [show ((255 : Nat) : Int) = 255 from rfl] at h
  rw [h]; omega
def Bytes (l : List Int) : Prop := (∀ x ∈ l, 0 ≤ x ∧ x ≤ 255) ∧ l.length ≤ 1048576
def StA (b : Nat) (a : Int) : Prop := 0 ≤ a ∧ a ≤ (b : Int) ∧ b ≤ 1000000
theorem StA.up {b c : Nat} {a : Int} (h : StA b a) (hbc : b ≤ c) (hc : c ≤ 1000000) : StA c a := ⟨h.1, by have := h.2.1; omega, hc⟩
theorem rd_byte (l : List Int) (h : Bytes l) (i : Int) : 0 ≤ rd l i ∧ rd l i ≤ 255 := by
  unfold rd
  rw [List.getD_eq_getElem?_getD]
  by_cases c : i.toNat < l.length
  · rw [List.getElem?_eq_getElem c]; exact h.1 _ (List.getElem_mem c)
  · rw [List.getElem?_eq_none (by omega)]; exact ⟨Int.le_refl _, by decide⟩
theorem draw_next (l : List Int) (hl : Bytes l) (b : Nat) (a s : Int) (h : StA b a) (hb : b + 1 ≤ 1000000) : ∃ v a' s', spec_l1Cur_next.f l a s = some (v, a', s') ∧ (0 ≤ v ∧ v ≤ 255) ∧ StA (b + 1) a' := by
  have hw : wrap64 (a + 1) = a + 1 := wrap64_id (by have := h.1; omega) (by have := h.2.1; omega)
  have hS : StA (b + 1) (a + 1) := ⟨by have := h.1; omega, by have := h.2.1; omega, hb⟩
  have hr := rd_byte l hl a
  have hwr : wrap64 (rd l a) = rd l a := wrap64_id (by omega) (by omega)
  have hx : ∀ x : Int, 0 ≤ wrap64 (bits .and .u64 (IntKind.u64.wrap x / 1099511627776) 255) ∧ wrap64 (bits .and .u64 (IntKind.u64.wrap x / 1099511627776) 255) ≤ 255 := fun x => by
    have h1 := u64r x
    have h2 := and255 (IntKind.u64.wrap x / 1099511627776) (by omega) (by omega)
    rw [wrap64_id (by omega) (by omega)]; exact h2
  unfold spec_l1Cur_next.f
  rw [hw]
  by_cases c1 : a < (l.length : Int)
  · rw [if_pos c1, if_pos h.1]
    by_cases c2 : a + 1 ≤ (l.length : Int)
    · rw [if_pos c2]; exact ⟨_, _, _, rfl, by rw [hwr]; exact hr, hS⟩
    · rw [if_neg c2]; exact ⟨_, _, _, rfl, hx _, hS⟩
  · rw [if_neg c1]
    by_cases c2 : a + 1 ≤ (l.length : Int)
    · rw [if_pos c2]; exact ⟨_, _, _, rfl, ⟨Int.le_refl _, by decide⟩, hS⟩
    · rw [if_neg c2]; exact ⟨_, _, _, rfl, hx _, hS⟩
theorem draw_pick (l : List Int) (hl : Bytes l) (b : Nat) (a s n : Int) (h : StA b a) (hb : b + 2 ≤ 1000000) : ∃ v a' s', spec_l1Cur_pick.f l a s n = some (v, a', s') ∧ (0 ≤ v ∧ (v = 0 ∨ v < n)) ∧ StA (b + 2) a' := by
  unfold spec_l1Cur_pick.f
  by_cases c1 : n ≤ 1
  · rw [if_pos c1]; exact ⟨_, _, _, rfl, ⟨Int.le_refl _, Or.inl rfl⟩, h.up (by omega) hb⟩
  · rw [if_neg c1]
    obtain ⟨v, a', s', e, hv, h'⟩ := draw_next l hl b a s h (by omega)
    rw [e, Option.bind_some]
    by_cases c2 : n > 200
    · rw [if_pos c2]
      obtain ⟨v2, a2, s2, e2, hv2, h2⟩ := draw_next l hl (b + 1) a' s' h' (by omega)
      rw [e2, Option.bind_some, if_neg (by omega)]
      have hw1 : wrap64 (v * 256) = v * 256 := wrap64_id (by omega) (by omega)
      have hw2 : wrap64 (v * 256 + v2) = v * 256 + v2 := wrap64_id (by omega) (by omega)
      refine ⟨_, _, _, rfl, ?_, h2⟩
      simp only [hw1, hw2]
      exact ⟨Int.tmod_nonneg _ (by omega), Or.inr (Int.tmod_lt_of_pos _ (by omega))⟩
    · rw [if_neg c2, if_neg (by omega)]
      exact ⟨_, _, _, rfl, ⟨Int.tmod_nonneg _ hv.1, Or.inr (Int.tmod_lt_of_pos _ (by omega))⟩, h'.up (by omega) hb⟩
theorem draw_among (l : List Int) (hl : Bytes l) (b : Nat) (a s : Int) (xs : List Int) (hx : 0 < xs.length) (h : StA b a) (hb : b + 2 ≤ 1000000) : ∃ v a' s', spec_l1Cur_among.f l a s xs = some (v, a', s') ∧ v ∈ xs ∧ StA (b + 2) a' := by
  unfold spec_l1Cur_among.f
  obtain ⟨v, a', s', e, hv, h'⟩ := draw_pick l hl b a s (xs.length : Int) h hb
  rw [e, Option.bind_some, if_pos hv.1, if_pos (by omega)]
  refine ⟨_, _, _, rfl, ?_, h'⟩
  unfold rd
  have hi : v.toNat < xs.length := by omega
  simp only [List.getD_eq_getElem?_getD, List.getElem?_eq_getElem hi, Option.getD_some]
  exact List.getElem_mem hi
theorem draw_one (l : List Int) (hl : Bytes l) (b : Nat) (a s n : Int) (h : StA b a) (hb : b + 2 ≤ 1000000) : ∃ v a' s', spec_l1Cur_one.f l a s n = some (v, a', s') ∧ StA (b + 2) a' := by
  unfold spec_l1Cur_one.f
  obtain ⟨v, a', s', e, _, h'⟩ := draw_pick l hl b a s n h hb
  rw [e, Option.bind_some]
  exact ⟨_, _, _, rfl, h'⟩
theorem newCur_eq (l : List Int) : newCur.f l = some (l, 0, 0) := rfl
theorem st0 : StA 0 0 := ⟨Int.le_refl _, Int.le_refl _, by decide⟩
theorem tconf {α : Type} {g : Nat → Option α} {r : α} {Q : α → Prop} (h : Tot g (fun y => y = r)) (k : Tot g Q) : Q r := by
  obtain ⟨a, _, h1, h2⟩ := tand h k
  rw [← h1]; exact h2
theorem draw_note (l : List Int) (hl : Bytes l) (b : Nat) (a s : Int) (h : StA b a) (hb : b + 12 ≤ 1000000) : ∃ p st ln a' s', spec_l1Cur_note.f l a s = some (p, st, ln, a', s') ∧ StA (b + 12) a' := by
  unfold spec_l1Cur_note.f
  obtain ⟨v1, a1, s1, e1, _, h1⟩ := draw_pick l hl b a s 73 h (by omega)
  rw [e1, Option.bind_some]
  obtain ⟨v2, a2, s2, e2, _, h2⟩ := draw_among l hl (b + 2) a1 s1 [48, 50, 52, 55, 60, 60, 62, 64, 67, 72, wrap64 (24 + v1)] (by simp) h1 (by omega)
  rw [e2, Option.bind_some]
  obtain ⟨v3, a3, s3, e3, _, h3⟩ := draw_pick l hl (b + 2 + 2) a2 s2 40 h2 (by omega)
  rw [e3, Option.bind_some]
  obtain ⟨v4, a4, s4, e4, _, h4⟩ := draw_pick l hl (b + 2 + 2 + 2) a3 s3 40 h3 (by omega)
  rw [e4, Option.bind_some]
  obtain ⟨v5, a5, s5, e5, _, h5⟩ := draw_among l hl (b + 2 + 2 + 2 + 2) a4 s4 [0, 2, 4, 8, v3, v4, 999] (by simp) h4 (by omega)
  rw [e5, Option.bind_some]
  obtain ⟨v6, a6, s6, e6, _, h6⟩ := draw_among l hl (b + 2 + 2 + 2 + 2 + 2) a5 s5 [1, 2, 2, 4, 8, 99] (by simp) h5 (by omega)
  rw [e6, Option.bind_some]
  exact ⟨_, _, _, _, _, rfl, h6⟩
theorem small3 {n : Nat} (h : n ≤ 5000) : n < 5864062014805 := Nat.lt_of_le_of_lt h (by decide)
theorem nts_put (l x4 : List S31) (i m : Nat) (hi : i < l.length) (hl : l.length ≤ 1000) (h4 : x4.length = i) (hm : m ≤ i) (a b c : Int) (Q : List S31 × Bool → Prop)
    (next : ∀ t : List S31, t.length = i + 1 → Tot (fun k => spec_ntSorted.l0 k t l (l.length : Int) ((i + 1 : Nat) : Int)) Q) : Tot (fun k => spec_ntSorted.j2 k x4 (m : Int) l (l.length : Int) (i : Int) false a b c) Q := by
  have hw : wrap64 ((i : Int) + 1) = ((i + 1 : Nat) : Int) := by rw [wrap64_id (by omega) (by omega)]; omega
  refine tstep ?_
  simp only [spec_ntSorted.j2, hw]
  refine tneg (by simp) (tlet (tpos (Int.natCast_nonneg m) (tpos (by omega) (tlet (tpos (small3 (by simp; omega)) (tlet (tlet (tpos (small3 (by simp; omega)) (tlet (tlet (tpos (small3 (by simp; omega)) ?_)))))))))))
  exact next _ (by simp; omega)
theorem nts_in1 (l x4 : List S31) (i : Nat) (hi : i < l.length) (hl : l.length ≤ 1000) (h4 : x4.length = i) (a b c : Int) (Q : List S31 × Bool → Prop)
    (next : ∀ t : List S31, t.length = i + 1 → Tot (fun k => spec_ntSorted.l0 k t l (l.length : Int) ((i + 1 : Nat) : Int)) Q) : ∀ m : Nat, m ≤ i → Tot (fun k => spec_ntSorted.l1 k x4 (m : Int) l (l.length : Int) (i : Int) a b c) Q
  | 0, hm => by
    refine tstep ?_
    simp only [spec_ntSorted.l1]
    exact tneg (by simp) (nts_put l x4 i 0 hi hl h4 hm a b c Q next)
  | m + 1, hm => by
    have hw : wrap64 (((m + 1 : Nat) : Int) - 1) = (m : Int) := by rw [wrap64_id (by omega) (by omega)]; omega
    refine tstep ?_
    simp only [spec_ntSorted.l1, hw, ntBefore_eq]
    refine tpos (by omega) (tpos (Int.natCast_nonneg m) (tpos (by omega) (tlet ?_)))
    by_cases h : b < (rd_T31 x4 (m : Int)).f1 ∨ (b = (rd_T31 x4 (m : Int)).f1 ∧ a < (rd_T31 x4 (m : Int)).f0)
    · rw [decide_eq_true h]
      refine tstep ?_
      simp only [spec_ntSorted.j2, hw]
      exact tpos (by trivial) (nts_in1 l x4 i hi hl h4 a b c Q next m (by omega))
    · rw [decide_eq_false h]
      exact nts_put l x4 i (m + 1) hi hl h4 hm a b c Q next
theorem nts_loop1 (l : List S31) (hl : l.length ≤ 1000) : ∀ (d i : Nat) (x4 : List S31), i + d = l.length → x4.length = i → Tot (fun k => spec_ntSorted.l0 k x4 l (l.length : Int) (i : Int)) (fun y => y.1.length ≤ l.length)
  | 0, i, x4, hi, h4 => by
    refine tstep ?_
    simp only [spec_ntSorted.l0]
    refine tneg (by omega) (tbind (ntGood_tot x4 (by omega)) (fun b hb => tite (fun c => tsome ?_) (fun c => tsome ?_)))
    · dsimp only; omega
    · simp
  | d + 1, i, x4, hi, h4 => by
    refine tstep ?_
    simp only [spec_ntSorted.l0]
    refine tpos (by omega) (tpos (Int.natCast_nonneg i) (tpos (by omega) ?_))
    have h := nts_in1 l x4 i (by omega) hl h4 (rd_T31 l (i : Int)).f0 (rd_T31 l (i : Int)).f1 (rd_T31 l (i : Int)).f2 _ (fun t ht => nts_loop1 l hl d (i + 1) t (by omega) ht) i (Nat.le_refl _)
    rw [h4]
    exact h
theorem ntSorted_len (l : List S31) (hl : l.length ≤ 1000) : Tot (fun k => spec_ntSorted.f k l) (fun y => y.1.length ≤ l.length) := by
  unfold spec_ntSorted.f
  exact nts_loop1 l hl l.length 0 [] (by omega) rfl
theorem draw_score_loop (l : List Int) (hl : Bytes l) (x4 : Int) (h4 : x4 ≤ 100) (b : Nat) (hb : b + 14 * 90 ≤ 1000000) : ∀ (d i : Nat) (x3 : List S31) (a s : Int), i + d = 90 → x3.length ≤ i → StA (b + 14 * i) a →
    Tot (fun k => spec_l1Cur_score.l0 k x3 x4 (i : Int) l a s) (fun r => r.1.length ≤ 90 ∧ StA (b + 14 * 90) r.2.1)
  | 0, i, x3, a, s, hi, hx, h => by
    have e : i = 90 := by omega
    subst e
    have stop : Tot (fun k => spec_l1Cur_score.j2 k x3 x4 ((90 : Nat) : Int) false l a s) (fun r => r.1.length ≤ 90 ∧ StA (b + 14 * 90) r.2.1) := by
      refine tstep ?_
      simp only [spec_l1Cur_score.j2]
      exact tneg (by simp) (tsome ⟨hx, h⟩)
    refine tstep ?_
    simp only [spec_l1Cur_score.l0]
    exact tite (fun _ => by rw [decide_eq_false (by omega)]; exact stop) (fun _ => stop)
  | d + 1, i, x3, a, s, hi, hx, h => by
    have hw : wrap64 ((i : Int) + 1) = ((i + 1 : Nat) : Int) := by rw [wrap64_id (by omega) (by omega)]; omega
    have stop : Tot (fun k => spec_l1Cur_score.j2 k x3 x4 (i : Int) false l a s) (fun r => r.1.length ≤ 90 ∧ StA (b + 14 * 90) r.2.1) := by
      refine tstep ?_
      simp only [spec_l1Cur_score.j2]
      exact tneg (by simp) (tsome ⟨by (try dsimp only); omega, h.up (by omega) (by omega)⟩)
    have go : ∀ (a' s' p q r : Int), StA (b + 14 * (i + 1)) a' → Tot (fun k => spec_l1Cur_score.j3 k x3 x4 (i : Int) l a' s' p q r) (fun r => r.1.length ≤ 90 ∧ StA (b + 14 * 90) r.2.1) := by
      intro a' s' p q r h'
      refine tstep ?_
      simp only [spec_l1Cur_score.j3, hw]
      refine tlet (tpos (small3 (by simp; omega)) (tlet (tlet (tpos (small3 (by simp; omega)) ?_))))
      refine tbind (ntSorted_len _ (by simp; omega)) (fun y hy => ?_)
      have hy2 : y.1.length ≤ x3.length + 1 := by simpa using hy
      exact tite (fun _ => draw_score_loop l hl x4 h4 b hb d (i + 1) y.1 a' s' (by omega) (by omega) h') (fun _ => draw_score_loop l hl x4 h4 b hb d (i + 1) x3 a' s' (by omega) (by omega) h')
    refine tstep ?_
    simp only [spec_l1Cur_score.l0]
    refine tite (fun _ => ?_) (fun _ => stop)
    rw [decide_eq_true (by omega)]
    refine tstep ?_
    simp only [spec_l1Cur_score.j2]
    refine tpos (by trivial) ?_
    obtain ⟨p, q, r, a1, s1, e1, h1⟩ := draw_note l hl (b + 14 * i) a s h (by omega)
    rw [e1]
    refine tlet ?_
    try dsimp only
    refine tite (fun c => ?_) (fun c => ?_)
    · obtain ⟨v2, a2, s2, e2, _, h2⟩ := draw_pick l hl (b + 14 * i + 12) a1 s1 9 h1 (by omega)
      rw [e2]
      refine tlet ?_
      try dsimp only
      exact go _ _ _ _ _ h2
    · exact go _ _ _ _ _ (h1.up (by omega) (by omega))
theorem draw_score (l : List Int) (hl : Bytes l) (b : Nat) (a s : Int) (h : StA b a) (hb : b + 1264 ≤ 1000000) : Tot (fun k => spec_l1Cur_score.f k l a s) (fun r => r.1.length ≤ 90 ∧ StA (b + 1264) r.2.1) := by
  unfold spec_l1Cur_score.f
  obtain ⟨v1, a1, s1, e1, hv1, h1⟩ := draw_pick l hl b a s 9 h (by omega)
  rw [e1]
  refine tlet ?_
  try dsimp only
  obtain ⟨v2, a2, s2, e2, h2⟩ := draw_one l hl (b + 2) a1 s1 20 h1 (by omega)
  rw [e2]
  refine tlet ?_
  try dsimp only
  have go : ∀ n : Int, n ≤ 100 → Tot (fun k => spec_l1Cur_score.j0 k [] n l a2 s2) (fun r => r.1.length ≤ 90 ∧ StA (b + 1264) r.2.1) := by
    intro n hn
    refine tstep ?_
    simp only [spec_l1Cur_score.j0]
    exact tmono (draw_score_loop l hl n hn (b + 4) (by omega) 90 0 [] a2 s2 (by omega) (by simp) h2) (fun r hr => ⟨hr.1, hr.2.up (by omega) (by omega)⟩)
  exact tite (fun _ => go 30 (by omega)) (fun _ => go v1 (by omega))
theorem draw_anyScore_fill (l : List Int) (a s : Int) : ∀ (d : Nat) (x3 : List S31), x3.length + d = 31 → Tot (fun k => spec_l1Cur_anyScore.l0 k x3 l a s) (fun r => r.1.length ≤ 100 ∧ r.2.1 = a)
  | 0, x3, h => by
    refine tstep ?_
    simp only [spec_l1Cur_anyScore.l0]
    exact tneg (by omega) (tsome ⟨by (try dsimp only); omega, rfl⟩)
  | d + 1, x3, h => by
    refine tstep ?_
    simp only [spec_l1Cur_anyScore.l0]
    exact tpos (by omega) (tpos (small3 (by omega)) (draw_anyScore_fill l a s d _ (by simp; omega)))
theorem draw_anyScore (l : List Int) (hl : Bytes l) (b : Nat) (a s : Int) (h : StA b a) (hb : b + 1270 ≤ 1000000) : Tot (fun k => spec_l1Cur_anyScore.f k l a s) (fun r => r.1.length ≤ 100 ∧ StA (b + 1270) r.2.1) := by
  unfold spec_l1Cur_anyScore.f
  refine tbind (draw_score l hl b a s h (by omega)) (fun r hr => ?_)
  obtain ⟨x, a1, s1⟩ := r
  obtain ⟨hx, h1⟩ := hr
  dsimp only at hx h1
  refine tite (fun c => ?_) (fun c => tsome ⟨by (try dsimp only); omega, h1.up (by omega) (by omega)⟩)
  obtain ⟨v2, a2, s2, e2, hv2, h2⟩ := draw_pick l hl (b + 1264) a1 s1 (x.length : Int) h1 (by omega)
  rw [e2]
  refine tlet ?_
  try dsimp only
  refine tpos hv2.1 (tpos (by dsimp only at c; omega) ?_)
  obtain ⟨v3, a3, s3, e3, _, h3⟩ := draw_pick l hl (b + 1264 + 2) a2 s2 36 h2 (by omega)
  rw [e3]
  refine tlet ?_
  try dsimp only
  have among : ∀ (xs : List Int), 0 < xs.length → ∃ v4 a4 s4, spec_l1Cur_among.f l a3 s3 xs = some (v4, a4, s4) ∧ StA (b + 1270) a4 := fun xs hxs => by
    obtain ⟨v4, a4, s4, e4, _, h4⟩ := draw_among l hl (b + 1264 + 2 + 2) a3 s3 xs hxs h3 (by omega)
    exact ⟨v4, a4, s4, e4, h4⟩
  refine tite (fun _ => ?_) (fun _ => tite (fun _ => ?_) (fun _ => tite (fun _ => ?_) (fun _ => tite (fun _ => ?_) (fun _ => tite (fun _ => ?_) (fun _ => ?_)))))
  · obtain ⟨v4, a4, s4, e4, h4⟩ := among [23, 24, 96, 97] (by simp)
    rw [e4]
    refine tlet ?_
    try dsimp only
    exact tsome ⟨by simp; omega, h4⟩
  · obtain ⟨v4, a4, s4, e4, h4⟩ := among [-1, 0, 999, 1000] (by simp)
    rw [e4]
    refine tlet ?_
    try dsimp only
    exact tsome ⟨by simp; omega, h4⟩
  · obtain ⟨v4, a4, s4, e4, h4⟩ := among [0, 99, 100] (by simp)
    rw [e4]
    refine tlet ?_
    try dsimp only
    exact tsome ⟨by simp; omega, h4⟩
  · exact tpos (by dsimp only at c; omega) (tpos (small3 (by omega)) (tsome ⟨by simp; omega, h3.up (by omega) (by omega)⟩))
  · exact tmono (draw_anyScore_fill l a3 s3 31 [] (by simp)) (fun r hr => ⟨hr.1, by rw [hr.2]; exact h3.up (by omega) (by omega)⟩)
  · exact tsome ⟨by (try dsimp only); omega, h3.up (by omega) (by omega)⟩
theorem rd_get (l : List S31) (i : Nat) (h : i < l.length) : rd_T31 l (i : Int) = l[i] := by
  unfold rd_T31
  rw [List.getD_eq_getElem?_getD, Int.toNat_natCast, List.getElem?_eq_getElem h]
  rfl
def NtP (l : List S31) : Prop := (∀ x ∈ l, OkNote x.f0 x.f1 x.f2) ∧ l.Pairwise (fun x y => ntLess x y ∧ ¬ ntMeet x y) ∧ l.length ≤ 30
theorem ntLess_trans {x y z : S31} (h : ntLess x y) (g : ntLess y z) : ntLess x z := by
  unfold ntLess at *
  omega
theorem ntGood_iff (l : List S31) : ntGood l ↔ NtP l := by
  constructor
  · intro hg
    have hC : ∀ j : Nat, j < l.length → ntC l (j : Int) := fun j hj => hg.1 (j : Int) (by omega) (by omega)
    refine ⟨fun x hx => ?_, ?_, by have := hg.2; omega⟩
    · obtain ⟨k, hk, rfl⟩ := List.getElem_of_mem hx
      have := (hC k hk).1
      rw [rd_get l k hk] at this
      exact this
    · rw [List.pairwise_iff_getElem]
      intro i j hi hj hij
      have less : ∀ (d : Nat) (j : Nat), j = i + d + 1 → j < l.length → ntLess (rd_T31 l (i : Int)) (rd_T31 l (j : Int)) := by
        intro d
        induction d with
        | zero =>
          intro j e hj
          have := (hC j hj).2.1 (by omega)
          rw [show (j : Int) - 1 = (i : Int) by omega] at this
          exact this
        | succ d ih =>
          intro j e hj
          have h1 := ih (j - 1) (by omega) (by omega)
          have h2 := (hC j hj).2.1 (by omega)
          rw [show (j : Int) - 1 = ((j - 1 : Nat) : Int) by omega] at h2
          exact ntLess_trans h1 h2
      have h1 := less (j - i - 1) j (by omega) hj
      have h2 := (hC j hj).2.2 (i : Int) (by omega) (by omega)
      rw [rd_get l i hi, rd_get l j hj] at h1 h2
      exact ⟨h1, h2⟩
  · rintro ⟨h1, h2, h3⟩
    rw [List.pairwise_iff_getElem] at h2
    refine ⟨fun j j0 j1 => ?_, by omega⟩
    obtain ⟨n, rfl⟩ := Int.eq_ofNat_of_zero_le j0
    have hn : n < l.length := by omega
    refine ⟨by rw [rd_get l n hn]; exact h1 _ (List.getElem_mem hn), fun h => ?_, fun p p0 p1 => ?_⟩
    · rw [show ((n : Nat) : Int) - 1 = ((n - 1 : Nat) : Int) by omega, rd_get l (n - 1) (by omega), rd_get l n hn]
      exact (h2 (n - 1) n (by omega) hn (by omega)).1
    · obtain ⟨m, rfl⟩ := Int.eq_ofNat_of_zero_le p0
      rw [rd_get l m (by omega), rd_get l n hn]
      exact (h2 m n (by omega) hn (by omega)).2
theorem lt_iffN (a b : S31) : impl_sortedNotes_lt a b = true ↔ ntLess a b := by
  unfold impl_sortedNotes_lt ntLess
  rw [decide_eq_true_eq]
theorem insR_weak (x : S31) : ∀ r : List S31, r.Pairwise (fun a b => ¬ ntLess a b) → (Srt.insR impl_sortedNotes_lt x r).Pairwise (fun a b => ¬ ntLess a b)
  | [], _ => List.pairwise_singleton _ _
  | y :: ys, h => by
    rw [List.pairwise_cons] at h
    unfold Srt.insR
    split
    · rename_i c
      have c := (lt_iffN x y).1 c
      refine List.pairwise_cons.2 ⟨fun z hz => ?_, insR_weak x ys h.2⟩
      rcases List.mem_cons.1 ((Srt.insR_perm x ys).mem_iff.1 hz) with e | hz
      · rw [e]; unfold ntLess at *; omega
      · exact h.1 z hz
    · rename_i c
      have c : ¬ ntLess x y := fun g => c ((lt_iffN x y).2 g)
      refine List.pairwise_cons.2 ⟨fun z hz => ?_, List.pairwise_cons.2 h⟩
      rcases List.mem_cons.1 hz with e | hz
      · rw [e]; exact c
      · have := h.1 z hz
        unfold ntLess at *; omega
theorem foldR_weak : ∀ (l r : List S31), r.Pairwise (fun a b => ¬ ntLess a b) → (l.foldl (fun r x => Srt.insR impl_sortedNotes_lt x r) r).Pairwise (fun a b => ¬ ntLess a b)
  | [], r, h => h
  | x :: l, r, h => by
    rw [List.foldl_cons]
    exact foldR_weak l _ (insR_weak x r h)
theorem nsort_weak (l : List S31) : (Srt.nsort impl_sortedNotes_lt l).Pairwise (fun a b => ¬ ntLess b a) := by
  unfold Srt.nsort
  rw [List.pairwise_reverse]
  exact foldR_weak l [] List.Pairwise.nil
theorem pw_or {α : Type} {R : α → α → Prop} : ∀ (m : List α), m.Pairwise R → ∀ a b, a ∈ m → b ∈ m → a = b ∨ R a b ∨ R b a
  | [], _, a, _, ha, _ => by cases ha
  | x :: m, h, a, b, ha, hb => by
    rw [List.pairwise_cons] at h
    rcases List.mem_cons.1 ha with ea | ha2 <;> rcases List.mem_cons.1 hb with eb | hb2
    · exact .inl (by rw [ea, eb])
    · exact .inr (.inl (by rw [ea]; exact h.1 b hb2))
    · exact .inr (.inr (by rw [eb]; exact h.1 a ha2))
    · exact pw_or m h.2 a b ha2 hb2
theorem nsort_good (l m : List S31) (hp : m.Perm l) (hg : ntGood m) : Srt.nsort impl_sortedNotes_lt l = m := by
  have hm := (ntGood_iff m).1 hg
  have hs : m.Pairwise ntLess := hm.2.1.imp (fun h => h.1)
  have hpp : (Srt.nsort impl_sortedNotes_lt l).Perm m := (Srt.nsort_perm l).trans hp.symm
  refine List.Perm.eq_of_pairwise (fun a b ha hb h1 h2 => ?_) (nsort_weak l) (hs.imp (fun {a b} h => by unfold ntLess at *; omega)) hpp
  rcases pw_or m hs a b (hpp.mem_iff.1 ha) hb with h | h | h
  · exact h
  · exact absurd h h2
  · exact absurd h h1
open Classical in
noncomputable def sortedR (l : List S31) : List S31 × Bool := if ntGood (Srt.nsort impl_sortedNotes_lt l) then (Srt.nsort impl_sortedNotes_lt l, true) else ([], false)
theorem sorted_impl (l : List S31) (hl : l.length ≤ 1000) : Tot (fun k => impl_scoreOf.f k (Srt.nsort impl_sortedNotes_lt l)) (fun y => y = sortedR l) := by
  unfold sortedR
  refine tmono (scoreOf_tot2 _ (by rw [nsLen]; omega)) (fun y hy => ?_)
  by_cases h : ntGood (Srt.nsort impl_sortedNotes_lt l)
  · rw [if_pos h]; exact hy.1 h
  · rw [if_neg h]; exact hy.2 h
theorem sortedR_good (l : List S31) (h : ntGood l) : sortedR l = (l, true) := by
  have e := nsort_good l l (List.Perm.refl _) h
  unfold sortedR
  rw [e, if_pos h]
theorem sort_id (l : List S31) (hg : ntGood l) : Tot (fun k => impl_SortNotes.f k l) (fun y => y = (l, true)) := by
  have hl := hg.2
  unfold impl_SortNotes.f
  refine tneg (by omega) ?_
  rw [sortedNotes_eq l (by omega)]
  exact tlet (tbind (sorted_impl l (by omega)) (fun y e => tsome (by rw [e, sortedR_good l hg])))
theorem souI_in (l : List S31) (s : Int) : ∀ (i j : Nat), j < i → souAt l s (j : Int) → (rd_T31 l (j : Int)).f0 ∈ souI l s i
  | 0, j, h, _ => by omega
  | i + 1, j, h, hs => by
    unfold souI
    by_cases e : j = i
    · subst e
      rw [if_pos hs]
      exact List.mem_append_right _ (by simp)
    · have ih := souI_in l s i j (by omega) hs
      split
      · exact List.mem_append_left _ ih
      · exact ih
theorem souI_none (l : List S31) (s : Int) (i : Nat) (h : ∀ j : Nat, j < i → ¬ souAt l s (j : Int)) : souI l s i = [] := by
  induction i with
  | zero => rfl
  | succ i ih =>
    unfold souI
    rw [if_neg (h i (by omega))]
    exact ih (fun j hj => h j (by omega))
theorem souImpl_good (l : List S31) (s : Int) (hg : ntGood l) (s0 : 0 ≤ s) (s1 : s ≤ 1099) : Tot (fun k => impl_SoundingAt.f k l s) (fun y => y = (putAll (souI l s l.length), true)) := by
  have hl := hg.2
  unfold impl_SoundingAt.f
  refine tbind (isScore_tot l (by omega)) (fun b hb => tpos (hb.2 hg) ?_)
  first
    | (refine tneg (by omega) ?_
       rw [decide_eq_false (by omega)]
       refine tstep ?_
       simp only [impl_SoundingAt.j0]
       exact tneg (by simp) (implSou_tot l hg s))
theorem noteEnds_ge (l : List S31) : ∀ (i j : Nat), j < i → (rd_T31 l (j : Int)).f1 + (rd_T31 l (j : Int)).f2 ≤ noteEnds l i
  | 0, j, h => by omega
  | i + 1, j, h => by
    unfold noteEnds mx
    by_cases e : j = i
    · subst e; split <;> omega
    · have ih := noteEnds_ge l i j (by omega)
      split <;> omega
theorem noteEnds_bd (l : List S31) (hg : ntGood l) : ∀ i : Nat, i ≤ l.length → 0 ≤ noteEnds l i ∧ noteEnds l i ≤ 1098
  | 0, _ => by unfold noteEnds; omega
  | i + 1, h => by
    have ih := noteEnds_bd l hg i (by omega)
    have ho := (hg.1 (i : Int) (by omega) (by omega)).1
    unfold OkNote at ho
    unfold noteEnds mx
    split <;> omega
theorem loUpto_le (l : List S31) (z : Int) : ∀ (i j : Nat), j < i → loUpto l z i ≤ (rd_T31 l (j : Int)).f0
  | 0, j, h => by omega
  | i + 1, j, h => by
    unfold loUpto mn
    by_cases e : j = i
    · subst e; split <;> omega
    · have ih := loUpto_le l z i j (by omega)
      split <;> omega
theorem hiUpto_ge (l : List S31) (z : Int) : ∀ (i j : Nat), j < i → (rd_T31 l (j : Int)).f0 ≤ hiUpto l z i
  | 0, j, h => by omega
  | i + 1, j, h => by
    unfold hiUpto mx
    by_cases e : j = i
    · subst e; split <;> omega
    · have ih := hiUpto_ge l z i j (by omega)
      split <;> omega
theorem pSameNotes_tot (l m : List S31) (hl : l.length ≤ 1048576) : Tot (fun k => laws_pSameNotes.f k l m) (fun r => r = true ↔ l = m) := by
  unfold laws_pSameNotes.f
  refine tite (fun c => ?_) (fun c => tsome ⟨(fun h => by cases h), fun h => absurd (by rw [h]) c⟩)
  have hlen : l.length = m.length := by omega
  refine trec (σ := Int) (fun i k => laws_pSameNotes.l0 k l m (l.length : Int) i) (fun i => ((l.length : Int) - i).toNat) (fun i => 0 ≤ i ∧ i ≤ (l.length : Int) ∧ ∀ j : Int, 0 ≤ j → j < i → rd_T31 l j = rd_T31 m j) (fun _ r => r = true ↔ l = m) ?_ 0 ⟨Int.le_refl _, by omega, fun j h0 h1 => by omega⟩
  rintro i ⟨h0, h1, h2⟩ ih
  simp only [laws_pSameNotes.l0]
  refine tite (fun c => ?_) (fun c => tsome ⟨fun _ => ?_, fun _ => rfl⟩)
  · refine tpos h0 (tpos c (tpos (by omega) ?_))
    by_cases e : rd_T31 l i = rd_T31 m i
    · refine tneg (by rw [e]; simp) ?_
      rw [wrap64_id (by omega) (by omega)]
      exact ih (i + 1) ⟨by omega, by omega, fun j j0 j1 => by
        by_cases q : j = i
        · rw [q]; exact e
        · exact h2 j j0 (by omega)⟩ (by (try dsimp only); omega)
    · refine tpos ?_ (tsome ⟨(fun h => by cases h), fun h => absurd (by rw [h]) e⟩)
      have : ¬ ((rd_T31 l i).f0 = (rd_T31 m i).f0 ∧ (rd_T31 l i).f1 = (rd_T31 m i).f1 ∧ (rd_T31 l i).f2 = (rd_T31 m i).f2) := by
        rintro ⟨a1, a2, a3⟩
        apply e
        generalize rd_T31 l i = x at *
        generalize rd_T31 m i = y at *
        cases x; cases y
        simp_all
      by_cases a1 : (rd_T31 l i).f0 = (rd_T31 m i).f0 <;> by_cases a2 : (rd_T31 l i).f1 = (rd_T31 m i).f1 <;> by_cases a3 : (rd_T31 l i).f2 = (rd_T31 m i).f2 <;> simp_all
  · obtain rfl : i = (l.length : Int) := by omega
    exact ld_ext hlen (fun j j0 j1 => h2 j j0 j1)
theorem pIn_tot (l : List Int) (x : Int) (hl : l.length ≤ 1048576) : Tot (fun k => laws_pIn.f k l x) (fun r => r = true ↔ x ∈ l) := by
  unfold laws_pIn.f
  refine trec (σ := Int) (fun i k => laws_pIn.l0 k x l (l.length : Int) i) (fun i => ((l.length : Int) - i).toNat) (fun i => 0 ≤ i ∧ i ≤ (l.length : Int) ∧ ∀ j : Int, 0 ≤ j → j < i → rd l j ≠ x) (fun _ r => r = true ↔ x ∈ l) ?_ 0 ⟨Int.le_refl _, by omega, fun j h0 h1 => by omega⟩
  rintro i ⟨h0, h1, h2⟩ ih
  simp only [laws_pIn.l0]
  refine tite (fun c => ?_) (fun c => tsome ⟨(fun h => by cases h), fun h => ?_⟩)
  · refine tpos h0 (tpos c (tite (fun e => tsome ⟨fun _ => by rw [← e]; exact ld_mem i c h0, fun _ => rfl⟩) (fun e => ?_)))
    rw [wrap64_id (by omega) (by omega)]
    exact ih (i + 1) ⟨by omega, by omega, fun j j0 j1 => by
      by_cases q : j = i
      · rw [q]; exact e
      · exact h2 j j0 (by omega)⟩ (by (try dsimp only); omega)
  · obtain ⟨k, hk, rfl⟩ := List.getElem_of_mem h
    exact absurd (by unfold rd; rw [List.getD_eq_getElem?_getD]; simp [hk]) (h2 (k : Int) (by omega) (by omega))
theorem big_eq (l m : List Int) (hl : l.length ≤ maxLen) (hm : m.length ≤ maxLen) : laws_big.f l m = some (decide (1048576 < l.length + m.length)) := by
  have e : maxLen = 9223372036854775807 := rfl
  unfold laws_big.f
  by_cases h : (l.length : Int) > 1048576
  · rw [if_pos h, decide_eq_true (by omega)]
  · rw [if_neg h, wrap64_id (by omega) (by omega)]
    congr 1
    rw [decide_eq_decide]
    omega
theorem draw_ScoreText (l : List Int) (hl : Bytes l) : Tot (fun k => spec_DrawScoreText.f k l) (fun r => r.length ≤ 100) := by
  unfold spec_DrawScoreText.f spec_DrawIsScore.f
  rw [newCur_eq]
  refine tbind (Q := fun r => r.length ≤ 100) ?_ (fun r hr => tsome hr)
  exact tlet (tbind (draw_anyScore l hl 0 0 0 st0 (by omega)) (fun r hr => tsome hr.1))
theorem draw_TransposeScore (l : List Int) (hl : Bytes l) : Tot (fun k => spec_DrawTransposeScore.f k l) (fun r => r.1.length ≤ 100) := by
  unfold spec_DrawTransposeScore.f
  rw [newCur_eq]
  refine tlet (tbind (draw_anyScore l hl 0 0 0 st0 (by omega)) (fun r hr => ?_))
  obtain ⟨x, a1, s1⟩ := r
  obtain ⟨hx, h1⟩ := hr
  dsimp only at hx h1
  obtain ⟨v4, a4, s4, e4, _, h4⟩ := draw_among l hl (0 + 1270) a1 s1 [72, 73, -72, -73] (by simp) h1 (by omega)
  rw [e4]
  refine tlet ?_
  try dsimp only
  obtain ⟨v5, a5, s5, e5, _, h5⟩ := draw_among l hl (0 + 1270 + 2) a4 s4 [0, 1, -1, 5, 12, -12, 24, v4] (by simp) h4 (by omega)
  rw [e5]
  exact tlet (tsome hx)
theorem draw_MoveScore (l : List Int) (hl : Bytes l) : Tot (fun k => spec_DrawMoveScore.f k l) (fun r => r.1.length ≤ 100) := by
  unfold spec_DrawMoveScore.f
  rw [newCur_eq]
  refine tlet (tbind (draw_anyScore l hl 0 0 0 st0 (by omega)) (fun r hr => ?_))
  obtain ⟨x, a1, s1⟩ := r
  obtain ⟨hx, h1⟩ := hr
  dsimp only at hx h1
  obtain ⟨v4, a4, s4, e4, _, h4⟩ := draw_among l hl (0 + 1270) a1 s1 [999, 1000, -999, -1000] (by simp) h1 (by omega)
  rw [e4]
  refine tlet ?_
  try dsimp only
  obtain ⟨v5, a5, s5, e5, _, h5⟩ := draw_among l hl (0 + 1270 + 2) a4 s4 [0, 1, -1, 4, 40, -4, 900, v4] (by simp) h4 (by omega)
  rw [e5]
  exact tlet (tsome hx)
theorem score_post (l : List S31) (hl : l.length ≤ 1048576) : ∃ (s : ByteArray) (ok : Bool), (ok = true ↔ ntGood l) ∧ (ok = true → s.size ≤ 1200 ∧ scB (l.map lnB) = s.data.toList) ∧ Tot (fun k => spec_ScoreText.f k l) (fun y => y = (s, ok)) ∧ Tot (fun k => impl_ScoreText.f k l) (fun y => y = (s, ok)) := by
  by_cases hg : ntGood l
  · have hn := hg.2
    have hz := scUpto_size l hg l.length (Nat.le_refl _)
    refine ⟨scUpto l l.length, true, ⟨fun _ => hg, fun _ => rfl⟩, fun _ => ⟨by omega, (sc_all l).symm⟩, ?_, ?_⟩
    · unfold spec_ScoreText.f
      refine tbind (ntGood_tot l hl) (fun b h => tpos (h.2 hg) ?_)
      exact tbind (ntText_tot l hg) (fun _ e => by subst e; exact tsome rfl)
    · unfold impl_ScoreText.f
      exact tbind (isScore_tot l hl) (fun b h => tpos (h.2 hg) (implScoreText_tot l hg))
  · refine ⟨⟨#[]⟩, false, ⟨(fun h => by cases h), fun h => absurd h hg⟩, (fun h => by cases h), ?_, ?_⟩
    · unfold spec_ScoreText.f
      exact tbind (ntGood_tot l hl) (fun b h => tneg (fun hb => hg (h.1 hb)) (tsome rfl))
    · unfold impl_ScoreText.f
      exact tbind (isScore_tot l hl) (fun b h => tneg (fun hb => hg (h.1 hb)) (tsome rfl))
theorem end_post (l : List S31) (hl : l.length ≤ 1048576) : ∃ (e : Int) (one : Bool), (one = true ↔ ntGood l) ∧ (one = true → e = noteEnds l l.length) ∧ Tot (fun k => spec_EndOfScore.f k l) (fun y => y = (e, one)) ∧ Tot (fun k => impl_EndOfScore.f k l) (fun y => y = (e, one)) := by
  obtain ⟨⟨e, one⟩, hS, hI⟩ := endOfScore_agree l hl
  by_cases hg : ntGood l
  · have h : (e, one) = (noteEnds l l.length, true) := tconf hS (Q := fun y => y = (noteEnds l l.length, true)) (by
      unfold spec_EndOfScore.f
      exact tbind (ntGood_tot l hl) (fun b hb => tpos (hb.2 hg) (tbind (ntEnd_tot l hg) (fun _ e => by subst e; exact tsome rfl))))
    rw [Prod.mk.injEq] at h
    exact ⟨e, one, ⟨fun _ => hg, fun _ => h.2⟩, fun _ => h.1, hS, hI⟩
  · have h : one = false := tconf hS (Q := fun y => y.2 = false) (by
      unfold spec_EndOfScore.f
      exact tbind (ntGood_tot l hl) (fun b hb => tneg (fun c => hg (hb.1 c)) (tsome rfl)))
    exact ⟨e, one, ⟨fun c => (by rw [h] at c; cases c), fun c => absurd c hg⟩, fun c => (by rw [h] at c; cases c), hS, hI⟩
theorem range_post (l : List S31) (hl : l.length ≤ 1048576) : ∃ (lo hi : Int) (three : Bool), (three = true ↔ ntGood l ∧ 0 < l.length) ∧ (three = true → lo = loUpto l (rd_T31 l 0).f0 l.length ∧ hi = hiUpto l (rd_T31 l 0).f0 l.length) ∧ Tot (fun k => spec_RangeOf.f k l) (fun y => y = (lo, hi, three)) ∧ Tot (fun k => impl_RangeOf.f k l) (fun y => y = (lo, hi, three)) := by
  obtain ⟨⟨lo, hi, three⟩, hS, hI⟩ := rangeOf_agree l hl
  have sF : Tot (fun k => spec_RangeOf.j0 k l true) (fun y => y.2.2 = false) := by
    refine tstep ?_
    simp only [spec_RangeOf.j0, if_true]
    exact tsome rfl
  by_cases hg : ntGood l ∧ 0 < l.length
  · have h : (lo, hi, three) = (loUpto l (rd_T31 l 0).f0 l.length, hiUpto l (rd_T31 l 0).f0 l.length, true) := tconf hS (Q := fun y => y = (loUpto l (rd_T31 l 0).f0 l.length, hiUpto l (rd_T31 l 0).f0 l.length, true)) (by
      obtain ⟨hg, hp⟩ := hg
      unfold spec_RangeOf.f
      refine tbind (ntGood_tot l hl) (fun b hb => tpos (hb.2 hg) ?_)
      rw [show (((l.length : Int)) == 0) = false by simp; intro e; subst e; simp at hp]
      refine tstep ?_
      simp only [spec_RangeOf.j0]
      refine tneg (by simp) (tpos (by omega) ?_)
      refine trec (σ := Nat) (fun i k => spec_RangeOf.l0 k (loUpto l (rd_T31 l 0).f0 i) (hiUpto l (rd_T31 l 0).f0 i) l (l.length : Int) (i : Int)) (fun i => l.length - i) (fun i => i ≤ l.length) (fun _ r => r = (loUpto l (rd_T31 l 0).f0 l.length, hiUpto l (rd_T31 l 0).f0 l.length, true)) ?_ 0 (Nat.zero_le _)
      intro i hi ih
      simp only [spec_RangeOf.l0, l1Most_eq, l1LeastMn_eq, Option.bind_some, wrap64_id (x := (i : Int) + 1) (by omega) (by omega)]
      refine tite (fun c => ?_) (fun c => tsome (by rw [show i = l.length by omega]))
      refine tpos (by omega) (tpos c ?_)
      have := ih (i + 1) (by omega) (by omega)
      simpa [loUpto, hiUpto] using this)
    rw [Prod.mk.injEq, Prod.mk.injEq] at h
    exact ⟨lo, hi, three, ⟨fun _ => hg, fun _ => h.2.2⟩, fun _ => ⟨h.1, h.2.1⟩, hS, hI⟩
  · have he : ntGood l → (((l.length : Int)) == 0) = true := fun g => by
      have : l.length = 0 := Classical.byContradiction fun h => hg ⟨g, by omega⟩
      simp [this]
    have h : three = false := tconf hS (Q := fun y => y.2.2 = false) (by
      unfold spec_RangeOf.f
      refine tbind (ntGood_tot l hl) (fun b hb => tite (fun c => ?_) (fun c => sF))
      rw [he (hb.1 c)]
      exact sF)
    exact ⟨lo, hi, three, ⟨fun c => (by rw [h] at c; cases c), fun c => absurd c hg⟩, fun c => (by rw [h] at c; cases c), hS, hI⟩
theorem mv_back (l : List S31) (p q p2 q2 : Int) (h1 : p + p2 = 0) (h2 : q + q2 = 0) : (l.map (mvE p q)).map (mvE p2 q2) = l := by
  induction l with
  | nil => rfl
  | cons x l ih =>
    rw [List.map_cons, List.map_cons, ih]
    congr 1
    cases x with
    | mk a b c =>
      unfold mvE
      simp only
      rw [show a + p + p2 = a by omega, show b + q + q2 = b by omega]
theorem trans_go (l : List S31) (hg : ntGood l) (p : Int) (p1 : -72 ≤ p) (p2 : p ≤ 72) : Tot (fun k => impl_TransposeScore.f k l p) (fun y => ntPost (l.map (mvE p 0)) y) := by
  have hn := hg.2
  unfold impl_TransposeScore.f
  refine tbind (isScore_tot l (by omega)) (fun b h => tpos (h.2 hg) (tneg (by omega) ?_))
  rw [decide_eq_false (show ¬ p > 72 by omega)]
  refine tstep ?_
  simp only [impl_TransposeScore.j0, cloneNote l (by omega : l.length ≤ 1048576), Option.bind_some]
  exact tneg (by simp) (implTransposeScore_tot l hg p p1 p2)
theorem trans_no (l : List S31) (hl : l.length ≤ 1048576) (p : Int) (hg : ¬ (ntGood l ∧ -72 ≤ p ∧ p ≤ 72)) : Tot (fun k => impl_TransposeScore.f k l p) (fun y => y = ([], false)) := by
  have iF : Tot (fun k => impl_TransposeScore.j0 k l p true) (fun y => y = ([], false)) := by
    refine tstep ?_
    simp only [impl_TransposeScore.j0, if_true]
    exact tsome rfl
  unfold impl_TransposeScore.f
  refine tbind (isScore_tot l hl) (fun b h => tite (fun c => tite (fun c2 => iF) (fun c2 => ?_)) (fun c => iF))
  rw [decide_eq_true (show p > 72 from Classical.byContradiction fun hh => hg ⟨h.1 c, by omega⟩)]
  exact iF
def transD (l : List S31) (p : Int) (t : List S31) : Prop := ntGood l ∧ (-72 ≤ p ∧ p ≤ 72) ∧ t = l.map (mvE p 0) ∧ ntGood t
theorem trans_post (l : List S31) (p : Int) (hl : l.length ≤ 1048576) : ∃ (t : List S31) (five : Bool), t.length ≤ 1048576 ∧ (five = true → transD l p t) ∧ Tot (fun k => spec_TransposeScore.f k l p) (fun y => y = (t, five)) ∧ Tot (fun k => impl_TransposeScore.f k l p) (fun y => y = (t, five)) := by
  obtain ⟨⟨t, five⟩, hS, hI, hlen⟩ := transposeScore_agree l p hl
  refine ⟨t, five, hlen, fun c => ?_, hS, hI⟩
  by_cases hg : ntGood l ∧ -72 ≤ p ∧ p ≤ 72
  · have h := tconf hI (trans_go l hg.1 p hg.2.1 hg.2.2)
    rcases h with ⟨h1, h2⟩ | ⟨h1, h2⟩
    · rw [Prod.mk.injEq] at h2
      rw [h2.1]
      exact ⟨hg.1, hg.2, rfl, h1⟩
    · rw [Prod.mk.injEq] at h2
      rw [h2.2] at c; cases c
  · have h := tconf hI (trans_no l hl p hg)
    rw [Prod.mk.injEq] at h
    rw [h.2] at c; cases c
theorem trans_back (l : List S31) (p : Int) (t : List S31) (h : transD l p t) : Tot (fun k => impl_TransposeScore.f k t (wrap64 (-p))) (fun y => y = (l, true)) := by
  obtain ⟨hg, hp, rfl, ht⟩ := h
  rw [wrap64_id (by omega) (by omega)]
  refine tmono (trans_go _ ht (-p) (by omega) (by omega)) (fun y hy => ?_)
  rw [mv_back l p 0 (-p) 0 (by omega) (by omega)] at hy
  rcases hy with ⟨_, e⟩ | ⟨e, _⟩
  · exact e
  · exact absurd hg e
theorem move_go (l : List S31) (hg : ntGood l) (p : Int) (p1 : -999 ≤ p) (p2 : p ≤ 999) : Tot (fun k => impl_MoveScore.f k l p) (fun y => ntPost (l.map (mvE 0 p)) y) := by
  have hn := hg.2
  unfold impl_MoveScore.f
  refine tbind (isScore_tot l (by omega)) (fun b h => tpos (h.2 hg) (tneg (by omega) ?_))
  rw [decide_eq_false (show ¬ p > 999 by omega)]
  refine tstep ?_
  simp only [impl_MoveScore.j0, cloneNote l (by omega : l.length ≤ 1048576), Option.bind_some]
  exact tneg (by simp) (implMoveScore_tot l hg p p1 p2)
theorem move_no (l : List S31) (hl : l.length ≤ 1048576) (p : Int) (hg : ¬ (ntGood l ∧ -999 ≤ p ∧ p ≤ 999)) : Tot (fun k => impl_MoveScore.f k l p) (fun y => y = ([], false)) := by
  have iF : Tot (fun k => impl_MoveScore.j0 k l p true) (fun y => y = ([], false)) := by
    refine tstep ?_
    simp only [impl_MoveScore.j0, if_true]
    exact tsome rfl
  unfold impl_MoveScore.f
  refine tbind (isScore_tot l hl) (fun b h => tite (fun c => tite (fun c2 => iF) (fun c2 => ?_)) (fun c => iF))
  rw [decide_eq_true (show p > 999 from Classical.byContradiction fun hh => hg ⟨h.1 c, by omega⟩)]
  exact iF
def moveD (l : List S31) (p : Int) (t : List S31) : Prop := ntGood l ∧ (-999 ≤ p ∧ p ≤ 999) ∧ t = l.map (mvE 0 p) ∧ ntGood t
theorem move_post (l : List S31) (p : Int) (hl : l.length ≤ 1048576) : ∃ (t : List S31) (five : Bool), t.length ≤ 1048576 ∧ (five = true → moveD l p t) ∧ Tot (fun k => spec_MoveScore.f k l p) (fun y => y = (t, five)) ∧ Tot (fun k => impl_MoveScore.f k l p) (fun y => y = (t, five)) := by
  obtain ⟨⟨t, five⟩, hS, hI, hlen⟩ := moveScore_agree l p hl
  refine ⟨t, five, hlen, fun c => ?_, hS, hI⟩
  by_cases hg : ntGood l ∧ -999 ≤ p ∧ p ≤ 999
  · have h := tconf hI (move_go l hg.1 p hg.2.1 hg.2.2)
    rcases h with ⟨h1, h2⟩ | ⟨h1, h2⟩
    · rw [Prod.mk.injEq] at h2
      rw [h2.1]
      exact ⟨hg.1, hg.2, rfl, h1⟩
    · rw [Prod.mk.injEq] at h2
      rw [h2.2] at c; cases c
  · have h := tconf hI (move_no l hl p hg)
    rw [Prod.mk.injEq] at h
    rw [h.2] at c; cases c
theorem move_back (l : List S31) (p : Int) (t : List S31) (h : moveD l p t) : Tot (fun k => impl_MoveScore.f k t (wrap64 (-p))) (fun y => y = (l, true)) := by
  obtain ⟨hg, hp, rfl, ht⟩ := h
  rw [wrap64_id (by omega) (by omega)]
  refine tmono (move_go _ ht (-p) (by omega) (by omega)) (fun y hy => ?_)
  rw [mv_back l 0 p 0 (-p) (by omega) (by omega)] at hy
  rcases hy with ⟨_, e⟩ | ⟨e, _⟩
  · exact e
  · exact absurd hg e

theorem fs_j7 (v : List S31) (p : Int) (m : List S31) (seven : Bool) (hv : v.length ≤ 1048576) (h7 : seven = true → moveD v p m) : Tot (fun k => laws_FnScores.j7 k v p m seven) (fun b => b = true) := by
  refine tstep ?_
  simp only [laws_FnScores.j7]
  refine tite (fun c => ?_) (fun _ => tsome rfl)
  refine tbind (move_back v p m (h7 c)) (fun _ e => ?_); subst e
  refine tpos rfl (tbind (pSameNotes_tot v v hv) (fun t ht => ?_))
  rw [ht.2 rfl]
  refine tstep ?_
  simp only [laws_FnScores.j8]
  exact tneg (by simp) (tsome rfl)
theorem fs_j5 (u : List S31) (q : Int) (t : List S31) (five : Bool) (hu : u.length ≤ 1048576) (h5 : five = true → transD u q t) (v : List S31) (p : Int) (m : List S31) (seven : Bool) (hv : v.length ≤ 1048576) (h7 : seven = true → moveD v p m) :
    Tot (fun k => laws_FnScores.j5 k u q t five v p m seven false) (fun b => b = true) := by
  refine tstep ?_
  simp only [laws_FnScores.j5]
  refine tneg (by simp) (tite (fun c => ?_) (fun _ => fs_j7 v p m seven hv h7))
  refine tbind (trans_back u q t (h5 c)) (fun _ e => ?_); subst e
  refine tpos rfl (tbind (pSameNotes_tot u u hu) (fun t1 ht => ?_))
  rw [ht.2 rfl]
  refine tstep ?_
  simp only [laws_FnScores.j6]
  exact tneg (by simp) (fs_j7 v p m seven hv h7)
theorem fs_j4 (x : List Int) (B : Bytes x) : Tot (fun k => laws_FnScores.j4 k x) (fun b => b = true) := by
  refine tstep ?_
  simp only [laws_FnScores.j4]
  refine tbind (draw_TransposeScore x B) (fun A hA => ?_)
  obtain ⟨u, q⟩ := A
  dsimp only at hA
  obtain ⟨t, five, ht, h5, s1, i1⟩ := trans_post u q (by omega)
  refine tbind i1 (fun _ e => ?_); subst e
  refine tbind s1 (fun _ e => ?_); subst e
  refine tbind (draw_MoveScore x B) (fun A hA2 => ?_)
  obtain ⟨v, p⟩ := A
  dsimp only at hA2
  obtain ⟨m, seven, hm, h7, s2, i2⟩ := move_post v p (by omega)
  refine tbind i2 (fun _ e => ?_); subst e
  refine tbind s2 (fun _ e => ?_); subst e
  dsimp only
  refine tneg (by simp) (tbind (pSameNotes_tot t t ht) (fun t1 ht1 => tpos (ht1.2 rfl) ?_))
  refine tneg (by simp) (tbind (pSameNotes_tot m m hm) (fun t2 ht2 => ?_))
  rw [ht2.2 rfl]
  exact fs_j5 u q t five (by omega) h5 v p m seven (by omega) h7
theorem fs_l0 (x : List Int) (B : Bytes x) (l : List S31) (hg : ntGood l) : ∀ (d i : Nat), i + d = l.length →
    Tot (fun k => laws_FnScores.l0 k x l (noteEnds l l.length) (loUpto l (rd_T31 l 0).f0 l.length) (hiUpto l (rd_T31 l 0).f0 l.length) l (l.length : Int) (i : Int)) (fun b => b = true)
  | 0, i, hi => by
    refine tstep ?_
    simp only [laws_FnScores.l0]
    exact tneg (by omega) (fs_j4 x B)
  | d + 1, i, hi => by
    have hn := hg.2
    have hil : i < l.length := by omega
    have hw : wrap64 ((i : Int) + 1) = ((i + 1 : Nat) : Int) := by rw [wrap64_id (by omega) (by omega)]; omega
    have ho := (hg.1 (i : Int) (by omega) (by omega)).1
    unfold OkNote at ho
    have hlo := loUpto_le l (rd_T31 l 0).f0 l.length i hil
    have hhi := hiUpto_ge l (rd_T31 l 0).f0 l.length i hil
    have hen := noteEnds_ge l l.length i hil
    have w1 : wrap64 ((rd_T31 l (i : Int)).f1 + (rd_T31 l (i : Int)).f2) = (rd_T31 l (i : Int)).f1 + (rd_T31 l (i : Int)).f2 := wrap64_id (by omega) (by omega)
    have w2 : wrap64 ((rd_T31 l (i : Int)).f1 + (rd_T31 l (i : Int)).f2 - 1) = (rd_T31 l (i : Int)).f1 + (rd_T31 l (i : Int)).f2 - 1 := wrap64_id (by omega) (by omega)
    have inn : ∀ s : Int, souAt l s (i : Int) → (rd_T31 l (i : Int)).f0 ∈ putAll (souI l s l.length) := fun s hs => (putAll_mem _ _).2 (souI_in l s l.length i hil hs)
    have len : ∀ s : Int, (putAll (souI l s l.length)).length ≤ 1048576 := fun s => by
      rw [(putAll_perm _ (souI_nodup l s hg _ (Nat.le_refl _))).length_eq]
      have := souI_len l s l.length
      omega
    refine tstep ?_
    simp only [laws_FnScores.l0, w1, w2, hw]
    refine tpos (by omega) (tpos (Int.natCast_nonneg i) (tpos (by omega) ?_))
    refine tbind (souImpl_good l _ hg (by omega) (by omega)) (fun _ e => ?_); subst e
    refine tbind (souImpl_good l _ hg (by omega) (by omega)) (fun _ e => ?_); subst e
    refine tpos rfl (tbind (pIn_tot _ _ (len _)) (fun t1 ht1 => tpos (ht1.2 (inn _ (by unfold souAt; omega))) ?_))
    refine tpos rfl (tbind (pIn_tot _ _ (len _)) (fun t2 ht2 => tpos (ht2.2 (inn _ (by unfold souAt; omega))) ?_))
    refine tneg (by omega) (tneg (by omega) ?_)
    rw [decide_eq_false (by omega)]
    refine tstep ?_
    simp only [laws_FnScores.j3, hw]
    exact tneg (by simp) (fs_l0 x B l hg d (i + 1) (by omega))
theorem fs_j0 (x : List Int) (B : Bytes x) (l : List S31) (s : ByteArray) (ok : Bool) (e lo hi : Int) (h : ok = true → ntGood l ∧ (s.size ≤ 1200 ∧ scB (l.map lnB) = s.data.toList) ∧ e = noteEnds l l.length ∧ (0 < l.length → lo = loUpto l (rd_T31 l 0).f0 l.length ∧ hi = hiUpto l (rd_T31 l 0).f0 l.length)) :
    Tot (fun k => laws_FnScores.j0 k x l s ok e lo hi false) (fun b => b = true) := by
  refine tstep ?_
  simp only [laws_FnScores.j0]
  refine tneg (by simp) (tite (fun c => ?_) (fun _ => fs_j4 x B))
  obtain ⟨hg, ⟨hs, he⟩, rfl, hr⟩ := h c
  have hn := hg.2
  have hb := noteEnds_bd l hg l.length (Nat.le_refl _)
  refine tbind (implPS_hit s (by omega) l hg he) (fun _ e => ?_); subst e
  refine tbind (sort_id l hg) (fun _ e => ?_); subst e
  refine tbind (souImpl_good l _ hg (by omega) (by omega)) (fun _ e => ?_); subst e
  have hno : souI l (noteEnds l l.length) l.length = [] := souI_none l _ l.length (fun j hj hs => by
    have := noteEnds_ge l l.length j hj
    unfold souAt at hs
    omega)
  rw [hno]
  refine tpos rfl (tbind (pSameNotes_tot l l (by omega)) (fun t1 ht1 => tpos (ht1.2 rfl) ?_))
  refine tpos rfl (tbind (pSameNotes_tot l l (by omega)) (fun t2 ht2 => tpos (ht2.2 rfl) ?_))
  refine tpos rfl (tstep ?_)
  simp only [laws_FnScores.j1]
  refine tneg (by simp [putAll]) ?_
  by_cases hl : 0 < l.length
  · obtain ⟨rfl, rfl⟩ := hr hl
    exact fs_l0 x B l hg l.length 0 (by omega)
  · refine tstep ?_
    simp only [laws_FnScores.l0]
    exact tneg (by omega) (fs_j4 x B)

theorem FnScores : laws_FnScores.Pure := by
  intro l0 l1 hm0 hb0 hw0 hm1 hb1 hw1
  refine rounds ?_
  unfold laws_FnScores.f
  have wfb : ∀ x : Int, (Lit.int .u8 x).wf = true → 0 ≤ x ∧ x ≤ 255 := fun x h => by
    have h2 : (decide (IntKind.u8.min ≤ x) && decide (x ≤ IntKind.u8.max)) = true := h
    rw [Bool.and_eq_true, decide_eq_true_eq, decide_eq_true_eq] at h2
    exact h2
  rw [big_eq l0 l1 hm0 hm1]
  refine tlet (tite (fun _ => tsome rfl) (fun hsz => ?_))
  have hsum : l0.length + l1.length ≤ 1048576 := by
    rw [decide_eq_true_eq] at hsz
    omega
  have B0 : Bytes l0 := ⟨fun x hx => wfb x (hw0 x hx), by omega⟩
  have B1 : Bytes l1 := ⟨fun x hx => wfb x (hw1 x hx), by omega⟩
  refine tbind (draw_ScoreText l0 B0) (fun l hl => ?_)
  obtain ⟨s, ok, hok, hok2, s1, i1⟩ := score_post l (by omega)
  obtain ⟨e, one, hone, hone2, s2, i2⟩ := end_post l (by omega)
  obtain ⟨lo, hi, three, h3, h32, s3, i3⟩ := range_post l (by omega)
  refine tbind i1 (fun _ e => ?_); subst e
  refine tbind s1 (fun _ e => ?_); subst e
  refine tbind i2 (fun _ e => ?_); subst e
  refine tbind s2 (fun _ e => ?_); subst e
  refine tbind i3 (fun _ e => ?_); subst e
  refine tbind s3 (fun _ e => ?_); subst e
  dsimp only
  have e1 : one = ok := by rw [Bool.eq_iff_iff, hone, hok]
  subst e1
  have J := fs_j0 l1 B1 l s one e lo hi (fun c => ⟨hok.1 c, hok2 c, hone2 c, fun hp => h32 (h3.2 ⟨hok.1 c, hp⟩)⟩)
  refine tneg (by simp) (tpos rfl (tneg (by simp) (tpos rfl (tneg (by simp) (tpos rfl (tpos rfl (tneg (by simp) ?_)))))))
  have fin : Tot (fun k => (impl_IsScore.f k l).bind fun t => laws_FnScores.j0 k l1 l s one e lo hi (t != one)) (fun b => b = true) := by
    refine tbind (isScore_tot l (by omega)) (fun t ht => ?_)
    have e2 : (t != one) = false := by rw [bne_eq_false_iff_eq, Bool.eq_iff_iff, ht, hok]
    rw [e2]
    exact J
  refine tite (fun c => ?_) (fun c => ?_)
  · have e3 : (three != decide ((l.length : Int) > 0)) = false := by
      rw [bne_eq_false_iff_eq, Bool.eq_iff_iff, h3, decide_eq_true_eq]
      exact ⟨fun h => by omega, fun h => ⟨hok.1 c, by omega⟩⟩
    exact tneg (by rw [e3]; simp) fin
  · have e3 : three = false := by
      cases three with
      | false => rfl
      | true => exact absurd (hok.2 (h3.1 rfl).1) c
    exact tneg (by rw [e3]; simp) fin
end Go.Proofs.YtfpfjnmjekjnhaaGreatDoor.Pure
