/- The plain side of the law FnPlayable: lists and numbers alone. -/
import Derived.Test.YtgeipgflhjakjaaPFnPlayablex21
import Derived.Test.YtgeipgflhjakjaaGlue
import Derived.Test.YtgeipgflhjakjaaTot
import Derived.Laws.Bits64b
set_option linter.unusedVariables false
set_option linter.unusedSimpArgs false
namespace Go.Proofs.Ytgeipgflhjakjaa.Pure
open Go.RowKit Go.Proofs.Ytgeipgflhjakjaa.PFnPlayable Go.Proofs.YtgeipgflhjakjaaW.PrintWords Go.Proofs.YtgeipgflhjakjaaW.PrintMore Go.Proofs.Ytgeipgflhjakjaa.Tot

theorem l1In_eq (a b c : Int) : spec_l1In.f a b c = some (decide (b ≤ a ∧ a ≤ c)) := by
  unfold spec_l1In.f
  by_cases h : b ≤ a <;> simp [h]

abbrev OkNote (a b c : Int) : Prop := 24 ≤ a ∧ a ≤ 96 ∧ 0 ≤ b ∧ b ≤ 999 ∧ 1 ≤ c ∧ c ≤ 99
theorem ntNote_eq (a b c : Int) : spec_ntNote.f a b c = some (decide (OkNote a b c)) := by
  unfold spec_ntNote.f spec_ntPitch.f OkNote
  simp only [l1In_eq, Option.bind_some, decide_eq_true_eq]
  split
  · split
    · congr 1; rw [Bool.eq_iff_iff]; simp only [decide_eq_true_eq]; omega
    · congr 1; rw [Bool.eq_iff_iff]; simp only [decide_eq_true_eq]; simp; omega
  · congr 1; rw [Bool.eq_iff_iff]; simp only [decide_eq_true_eq]; simp; omega
theorem implIsNote_eq (a b c : Int) : impl_IsNote.f a b c = some (decide (OkNote a b c)) := by
  unfold impl_IsNote.f OkNote
  by_cases h1 : 24 ≤ a <;> by_cases h2 : a ≤ 96 <;> by_cases h3 : 0 ≤ b <;> by_cases h4 : b ≤ 999 <;> by_cases h5 : 1 ≤ c <;> simp [h1, h2, h3, h4, h5] <;> omega

def ntLess (x y : S80) : Prop := x.f1 < y.f1 ∨ (x.f1 = y.f1 ∧ x.f0 < y.f0)
def ntMeet (x y : S80) : Prop := x.f0 = y.f0 ∧ y.f1 < x.f1 + x.f2
def ntA (l : List S80) (j : Int) : Prop := OkNote (rd_T80 l j).f0 (rd_T80 l j).f1 (rd_T80 l j).f2 ∧ (0 < j → ntLess (rd_T80 l (j - 1)) (rd_T80 l j))
def ntC (l : List S80) (j : Int) : Prop := OkNote (rd_T80 l j).f0 (rd_T80 l j).f1 (rd_T80 l j).f2 ∧ (0 < j → ntLess (rd_T80 l (j - 1)) (rd_T80 l j)) ∧ (∀ p : Int, 0 ≤ p → p < j → ¬ ntMeet (rd_T80 l p) (rd_T80 l j))
theorem nt_take (l : List S80) (i p : Int) (h0 : 0 ≤ p) (h : p < i) : rd_T80 (l.take i.toNat) p = rd_T80 l p := by
  unfold rd_T80
  exact ld_take i.toNat p h0 (by omega)
theorem nt_start (l : List S80) (i : Int) (hp : ∀ j : Int, 0 ≤ j → j < i → ntC l j) (hi : 0 < i → ntLess (rd_T80 l (i - 1)) (rd_T80 l i)) (p : Int) (p0 : 0 ≤ p) (p1 : p < i) : (rd_T80 l p).f1 ≤ (rd_T80 l i).f1 := by
  have key : ∀ (d : Nat) (j : Int), j = p + d → j ≤ i → (rd_T80 l p).f1 ≤ (rd_T80 l j).f1 := by
    intro d
    induction d with
    | zero => intro j e _; rw [show j = p by omega]; exact Int.le_refl _
    | succ d ih =>
      intro j e h
      have h1 := ih (j - 1) (by omega) (by omega)
      have h2 : ntLess (rd_T80 l (j - 1)) (rd_T80 l j) := by
        by_cases e2 : j = i
        · rw [e2]; exact hi (by omega)
        · exact (hp j (by omega) (by omega)).2.1 (by omega)
      unfold ntLess at h2
      omega
  exact key (i - p).toNat i (by omega) (Int.le_refl _)

def ntGood (l : List S80) : Prop := (∀ j : Int, 0 ≤ j → j < (l.length : Int) → ntC l j) ∧ (l.length : Int) ≤ 30
theorem ntBefore_eq (a b c d e f : Int) : spec_ntBefore.f a b c d e f = some (decide (b < e ∨ (b = e ∧ a < d))) := by
  unfold spec_ntBefore.f
  by_cases h1 : b < e <;> by_cases h2 : b = e <;> simp [h1, h2]
theorem noteLess_eq (a b c d e f : Int) : impl_noteLess.f a b c d e f = some (decide (b < e ∨ (b = e ∧ a < d))) := by
  unfold impl_noteLess.f
  by_cases h2 : b = e
  · subst h2; simp
  · simp [h2]
theorem ntMeet_eq (a b c d e f : Int) (h : OkNote a b c) (g : OkNote d e f) : spec_ntMeet.f a b c d e f = some (decide (a = d ∧ b < e + f ∧ e < b + c)) := by
  unfold spec_ntMeet.f
  unfold OkNote at h g
  rw [wrap64_id (x := e + f) (by omega) (by omega), wrap64_id (x := b + c) (by omega) (by omega)]
  by_cases h1 : a = d <;> by_cases h2 : b < e + f <;> simp [h1, h2]
theorem noteEnd_eq (a b c : Int) (h : OkNote a b c) : impl_noteEnd.f a b c = some (b + c) := by
  unfold impl_noteEnd.f
  unfold OkNote at h
  rw [wrap64_id (by omega) (by omega)]

theorem nt_spec_ntGood_loop (l : List S80) (hl : l.length ≤ 1048576) : Tot (fun k => spec_ntGood.l0 k l l (l.length : Int) 0) (fun b => (b = true) ↔ ((∀ j : Int, 0 ≤ j → j < (l.length : Int) → ntC l j) ∧ (l.length : Int) ≤ 30)) := by
  refine trec (σ := Int) (fun i k => spec_ntGood.l0 k l l (l.length : Int) i) (fun i => ((l.length : Int) - i).toNat) (fun i => 0 ≤ i ∧ i ≤ (l.length : Int) ∧ ∀ j : Int, 0 ≤ j → j < i → ntC l j)
    (fun i b => (b = true) ↔ ((∀ j : Int, i ≤ j → j < (l.length : Int) → ntC l j) ∧ (l.length : Int) ≤ 30)) ?_ 0 ⟨Int.le_refl _, by omega, fun j a b => by omega⟩
  rintro i ⟨h0, h1, hp⟩ ih
  have hno : i < (l.length : Int) → ¬ ntC l i → Tot (fun _ => some false) (fun b => (b = true) ↔ ((∀ j : Int, i ≤ j → j < (l.length : Int) → ntC l j) ∧ (l.length : Int) ≤ 30)) := fun a b => tsome (all_no a b)
  have hjT : i < (l.length : Int) → ¬ ntA l i → Tot (fun k => spec_ntGood.j1 k l i l (l.length : Int) i true (rd_T80 l i).f0 (rd_T80 l i).f1 (rd_T80 l i).f2) (fun b => (b = true) ↔ ((∀ j : Int, i ≤ j → j < (l.length : Int) → ntC l j) ∧ (l.length : Int) ≤ 30)) := by
    intro a b
    refine tstep ?_
    simp only [spec_ntGood.j1, if_true]
    exact hno a (fun h => b ⟨h.1, h.2.1⟩)
  have hjF : i < (l.length : Int) → ntA l i → Tot (fun k => spec_ntGood.j1 k l i l (l.length : Int) i false (rd_T80 l i).f0 (rd_T80 l i).f1 (rd_T80 l i).f2) (fun b => (b = true) ↔ ((∀ j : Int, i ≤ j → j < (l.length : Int) → ntC l j) ∧ (l.length : Int) ≤ 30)) := by
    intro a hA
    refine tstep ?_
    simp only [spec_ntGood.j1, Option.bind_some]
    refine tneg (by simp) (tpos h0 (tpos h1 ?_))
    have hlen : ((l.take i.toNat).length : Int) = i := by simp; omega
    rw [hlen]
    refine trec (σ := Int) (fun p k => spec_ntGood.l1 k l l (l.length : Int) i (l.take i.toNat) i p (rd_T80 l i).f0 (rd_T80 l i).f1 (rd_T80 l i).f2) (fun p => (i - p).toNat) (fun p => 0 ≤ p ∧ p ≤ i ∧ ∀ q : Int, 0 ≤ q → q < p → ¬ ntMeet (rd_T80 l q) (rd_T80 l i))
      (fun _ => (fun b => (b = true) ↔ ((∀ j : Int, i ≤ j → j < (l.length : Int) → ntC l j) ∧ (l.length : Int) ≤ 30))) ?_ 0 ⟨Int.le_refl _, h0, fun q a b => by omega⟩
    rintro p ⟨p0, p1, pq⟩ ihp
    simp only [spec_ntGood.l1, hlen, wrap64_id (show -9223372036854775808 ≤ i + 1 by omega) (by omega), wrap64_id (show -9223372036854775808 ≤ p + 1 by omega) (by omega)]
    refine tite (fun c => ?_) (fun c => ?_)
    · refine tpos p0 (tpos c ?_)
      simp only [nt_take l i p p0 c]
      have hs := nt_start l i hp hA.2 p p0 c
      have o1 := (hp p p0 c).1
      have o2 := hA.1
      simp only [ntMeet_eq _ _ _ _ _ _ o2 o1, Option.bind_some, decide_eq_true_eq]
      unfold OkNote at o1 o2
      have go : ¬ ntMeet (rd_T80 l p) (rd_T80 l i) → Tot (fun k => spec_ntGood.l1 k l l (l.length : Int) i (l.take i.toNat) i (p + 1) (rd_T80 l i).f0 (rd_T80 l i).f1 (rd_T80 l i).f2) (fun b => (b = true) ↔ ((∀ j : Int, i ≤ j → j < (l.length : Int) → ntC l j) ∧ (l.length : Int) ≤ 30)) := fun hm =>
        ihp (p + 1) ⟨by omega, by omega, fun q q0 q1 => by
          by_cases e : q = p
          · rw [e]; exact hm
          · exact pq q q0 (by omega)⟩ (by (try dsimp only); omega)
      repeat' (refine tite (fun _ => ?_) (fun _ => ?_))
      all_goals first
        | exact go (by unfold ntMeet; omega)
        | exact hno a (fun h => h.2.2 p p0 c (by unfold ntMeet; omega))
    · have Ci : ntC l i := ⟨hA.1, hA.2, fun q q0 q1 => pq q q0 (by omega)⟩
      exact tmono (ih (i + 1) ⟨by omega, by omega, fun j j0 j1 => by
        by_cases e : j = i
        · rw [e]; exact Ci
        · exact hp j j0 (by omega)⟩ (by (try dsimp only); omega)) (fun b hb => all_go a Ci hb)
  simp only [spec_ntGood.l0, ntNote_eq, ntBefore_eq, Option.bind_some, decide_eq_true_eq]
  simp only [show wrap64 (i - 1) = i - 1 from wrap64_id (by omega) (by omega)]
  by_cases hL : ntLess (rd_T80 l (i - 1)) (rd_T80 l i)
  all_goals
    have hL2 := hL
    unfold ntLess at hL2
    simp only [hL2, decide_true, decide_false, Bool.not_true, Bool.not_false]
    repeat' (refine tite (fun _ => ?_) (fun _ => ?_))
    all_goals first
      | (exfalso; omega)
      | exact hjF (by omega) ⟨by assumption, fun _ => hL⟩
      | exact hjF (by omega) ⟨by assumption, fun h => absurd h (by omega)⟩
      | exact hjT (by omega) (fun h => absurd h.1 (by assumption))
      | exact hjT (by omega) (fun h => absurd (h.2 (by omega)) hL)
      | exact tsome (all_end (by omega) (by simp only [decide_eq_true_eq]))

theorem nt_impl_IsScore_loop (l : List S80) (hl : l.length ≤ 1048576) : Tot (fun k => impl_IsScore.l0 k l l (l.length : Int) 0) (fun b => (b = true) ↔ ((∀ j : Int, 0 ≤ j → j < (l.length : Int) → ntC l j) ∧ True)) := by
  refine trec (σ := Int) (fun i k => impl_IsScore.l0 k l l (l.length : Int) i) (fun i => ((l.length : Int) - i).toNat) (fun i => 0 ≤ i ∧ i ≤ (l.length : Int) ∧ ∀ j : Int, 0 ≤ j → j < i → ntC l j)
    (fun i b => (b = true) ↔ ((∀ j : Int, i ≤ j → j < (l.length : Int) → ntC l j) ∧ True)) ?_ 0 ⟨Int.le_refl _, by omega, fun j a b => by omega⟩
  rintro i ⟨h0, h1, hp⟩ ih
  have hno : i < (l.length : Int) → ¬ ntC l i → Tot (fun _ => some false) (fun b => (b = true) ↔ ((∀ j : Int, i ≤ j → j < (l.length : Int) → ntC l j) ∧ True)) := fun a b => tsome (all_no a b)
  have hjT : i < (l.length : Int) → ¬ ntA l i → Tot (fun k => impl_IsScore.j1 k l i l (l.length : Int) i true (rd_T80 l i).f0 (rd_T80 l i).f1 (rd_T80 l i).f2) (fun b => (b = true) ↔ ((∀ j : Int, i ≤ j → j < (l.length : Int) → ntC l j) ∧ True)) := by
    intro a b
    refine tstep ?_
    simp only [impl_IsScore.j1, if_true]
    exact hno a (fun h => b ⟨h.1, h.2.1⟩)
  have hjF : i < (l.length : Int) → ntA l i → Tot (fun k => impl_IsScore.j1 k l i l (l.length : Int) i false (rd_T80 l i).f0 (rd_T80 l i).f1 (rd_T80 l i).f2) (fun b => (b = true) ↔ ((∀ j : Int, i ≤ j → j < (l.length : Int) → ntC l j) ∧ True)) := by
    intro a hA
    refine tstep ?_
    simp only [impl_IsScore.j1, Option.bind_some]
    refine tneg (by simp) (tpos h0 (tpos h1 ?_))
    have hlen : ((l.take i.toNat).length : Int) = i := by simp; omega
    rw [hlen]
    refine trec (σ := Int) (fun p k => impl_IsScore.l1 k l l (l.length : Int) i (l.take i.toNat) i p (rd_T80 l i).f0 (rd_T80 l i).f1 (rd_T80 l i).f2) (fun p => (i - p).toNat) (fun p => 0 ≤ p ∧ p ≤ i ∧ ∀ q : Int, 0 ≤ q → q < p → ¬ ntMeet (rd_T80 l q) (rd_T80 l i))
      (fun _ => (fun b => (b = true) ↔ ((∀ j : Int, i ≤ j → j < (l.length : Int) → ntC l j) ∧ True))) ?_ 0 ⟨Int.le_refl _, h0, fun q a b => by omega⟩
    rintro p ⟨p0, p1, pq⟩ ihp
    simp only [impl_IsScore.l1, hlen, wrap64_id (show -9223372036854775808 ≤ i + 1 by omega) (by omega), wrap64_id (show -9223372036854775808 ≤ p + 1 by omega) (by omega)]
    refine tite (fun c => ?_) (fun c => ?_)
    · refine tpos p0 (tpos c ?_)
      simp only [nt_take l i p p0 c]
      have hs := nt_start l i hp hA.2 p p0 c
      have o1 := (hp p p0 c).1
      have o2 := hA.1
      simp only [noteEnd_eq _ _ _ o1, Option.bind_some]
      unfold OkNote at o1 o2
      have go : ¬ ntMeet (rd_T80 l p) (rd_T80 l i) → Tot (fun k => impl_IsScore.l1 k l l (l.length : Int) i (l.take i.toNat) i (p + 1) (rd_T80 l i).f0 (rd_T80 l i).f1 (rd_T80 l i).f2) (fun b => (b = true) ↔ ((∀ j : Int, i ≤ j → j < (l.length : Int) → ntC l j) ∧ True)) := fun hm =>
        ihp (p + 1) ⟨by omega, by omega, fun q q0 q1 => by
          by_cases e : q = p
          · rw [e]; exact hm
          · exact pq q q0 (by omega)⟩ (by (try dsimp only); omega)
      repeat' (refine tite (fun _ => ?_) (fun _ => ?_))
      all_goals first
        | exact go (by unfold ntMeet; omega)
        | exact hno a (fun h => h.2.2 p p0 c (by unfold ntMeet; omega))
    · have Ci : ntC l i := ⟨hA.1, hA.2, fun q q0 q1 => pq q q0 (by omega)⟩
      exact tmono (ih (i + 1) ⟨by omega, by omega, fun j j0 j1 => by
        by_cases e : j = i
        · rw [e]; exact Ci
        · exact hp j j0 (by omega)⟩ (by (try dsimp only); omega)) (fun b hb => all_go a Ci hb)
  simp only [impl_IsScore.l0, implIsNote_eq, noteLess_eq, Option.bind_some, decide_eq_true_eq]
  simp only [show wrap64 (i - 1) = i - 1 from wrap64_id (by omega) (by omega)]
  by_cases hL : ntLess (rd_T80 l (i - 1)) (rd_T80 l i)
  all_goals
    have hL2 := hL
    unfold ntLess at hL2
    simp only [hL2, decide_true, decide_false, Bool.not_true, Bool.not_false]
    repeat' (refine tite (fun _ => ?_) (fun _ => ?_))
    all_goals first
      | (exfalso; omega)
      | exact hjF (by omega) ⟨by assumption, fun _ => hL⟩
      | exact hjF (by omega) ⟨by assumption, fun h => absurd h (by omega)⟩
      | exact hjT (by omega) (fun h => absurd h.1 (by assumption))
      | exact hjT (by omega) (fun h => absurd (h.2 (by omega)) hL)
      | exact tsome (all_end (by omega) (by simp))

theorem ntGood_tot (l : List S80) (hl : l.length ≤ 1048576) : Tot (fun k => spec_ntGood.f k l) (fun b => (b = true) ↔ ntGood l) := by
  unfold spec_ntGood.f
  exact nt_spec_ntGood_loop l hl
theorem isScore_tot (l : List S80) (hl : l.length ≤ 1048576) : Tot (fun k => impl_IsScore.f k l) (fun b => (b = true) ↔ ntGood l) := by
  unfold impl_IsScore.f ntGood
  refine tite (fun c => tsome ⟨(fun h => by simp at h), (fun h => by have := h.2; omega)⟩) (fun c => ?_)
  refine tmono (nt_impl_IsScore_loop l hl) (fun b hb => ?_)
  rw [hb]
  exact ⟨fun h => ⟨h.1, by omega⟩, fun h => ⟨h.1, trivial⟩⟩

theorem isPitch_eq (a : Int) : impl_isPitch.f a = some (decide (24 ≤ a ∧ a ≤ 96)) := by
  unfold impl_isPitch.f
  by_cases h : 24 ≤ a <;> simp [h]
def InC (l : List Int) (j : Int) : Prop := 24 ≤ rd l j ∧ rd l j ≤ 96 ∧ (0 < j → rd l (j - 1) < rd l j)
def InGood (l : List Int) (a : Int) : Prop := (∀ j : Int, 0 ≤ j → j < (l.length : Int) → InC l j) ∧ (1 ≤ (l.length : Int) ∧ (l.length : Int) ≤ 20 ∧ 1 ≤ a ∧ a ≤ 20)
theorem l1Rising_tot (l : List Int) (hl : l.length ≤ 1048576) : Tot (fun k => spec_l1Rising.f k l 24 96) (fun b => (b = true) ↔ ((∀ j : Int, 0 ≤ j → j < (l.length : Int) → InC l j) ∧ True)) := by
  unfold spec_l1Rising.f
  refine trec (σ := Int) (fun i k => spec_l1Rising.l0 k l 24 96 l (l.length : Int) i) (fun i => ((l.length : Int) - i).toNat) (fun i => 0 ≤ i ∧ i ≤ (l.length : Int))
    (fun i b => (b = true) ↔ ((∀ j : Int, i ≤ j → j < (l.length : Int) → InC l j) ∧ True)) ?_ 0 ⟨Int.le_refl _, by omega⟩
  rintro i ⟨h0, h1⟩ ih
  simp only [spec_l1Rising.l0, l1In_eq, Option.bind_some, decide_eq_true_eq]
  simp only [show wrap64 (i + 1) = i + 1 from wrap64_id (by omega) (by omega), show wrap64 (i - 1) = i - 1 from wrap64_id (by omega) (by omega)]
  repeat' (refine tite (fun _ => ?_) (fun _ => ?_))
  all_goals first
    | (exfalso; omega)
    | exact tsome (all_no (by omega) (by unfold InC; omega))
    | exact tmono (ih (i + 1) ⟨by omega, by omega⟩ (by (try dsimp only); omega)) (fun b hb => all_go (by omega) (by unfold InC; omega) hb)
    | exact tsome (all_end (by omega) (by simp))
theorem inGood_tot (l : List Int) (a : Int) (hl : l.length ≤ 1048576) : Tot (fun k => spec_inGood.f k l a) (fun b => (b = true) ↔ InGood l a) := by
  unfold spec_inGood.f
  simp only [l1In_eq, Option.bind_some, decide_eq_true_eq]
  refine tite (fun c => ?_) (fun c => tsome ⟨(fun h => by simp at h), (fun h => by have := h.2; omega)⟩)
  refine tbind (l1Rising_tot l hl) (fun b hb => ?_)
  refine tite (fun c2 => ?_) (fun c2 => tsome ⟨(fun h => by simp at h), (fun h => absurd (hb.2 ⟨h.1, trivial⟩) c2)⟩)
  refine tsome ?_
  have := (hb.1 c2).1
  unfold InGood
  simp only [decide_eq_true_eq]
  exact ⟨fun h => ⟨this, by omega⟩, fun h => by omega⟩
theorem isInstrument_tot (l : List Int) (a : Int) (hl : l.length ≤ 1048576) : Tot (fun k => impl_IsInstrument.f k l a) (fun b => (b = true) ↔ InGood l a) := by
  have key : 1 ≤ (l.length : Int) → (l.length : Int) ≤ 20 → 1 ≤ a → a ≤ 20 → Tot (fun k => impl_IsInstrument.l0 k l (l.length : Int) 0 l a) (fun b => (b = true) ↔ InGood l a) := by
    intro g1 g2 g3 g4
    refine tmono (trec (σ := Int) (fun i k => impl_IsInstrument.l0 k l (l.length : Int) i l a) (fun i => ((l.length : Int) - i).toNat) (fun i => 0 ≤ i ∧ i ≤ (l.length : Int))
      (fun i b => (b = true) ↔ ((∀ j : Int, i ≤ j → j < (l.length : Int) → InC l j) ∧ True)) ?_ 0 ⟨Int.le_refl _, by omega⟩) (fun b hb => ?_)
    · rintro i ⟨h0, h1⟩ ih
      simp only [impl_IsInstrument.l0, isPitch_eq, Option.bind_some, decide_eq_true_eq]
      simp only [show wrap64 (i + 1) = i + 1 from wrap64_id (by omega) (by omega), show wrap64 (i - 1) = i - 1 from wrap64_id (by omega) (by omega)]
      repeat' (refine tite (fun _ => ?_) (fun _ => ?_))
      all_goals first
        | (exfalso; omega)
        | exact tsome (all_no (by omega) (by unfold InC; omega))
        | exact tmono (ih (i + 1) ⟨by omega, by omega⟩ (by (try dsimp only); omega)) (fun b hb => all_go (by omega) (by unfold InC; omega) hb)
        | exact tsome (all_end (by omega) (by simp))
    · rw [hb]; unfold InGood
      exact ⟨fun h => ⟨h.1, g1, g2, g3, g4⟩, fun h => ⟨h.1, trivial⟩⟩
  have no : ¬ InGood l a → Tot (fun k => impl_IsInstrument.j0 k true l a) (fun b => (b = true) ↔ InGood l a) := by
    intro hn
    refine tstep ?_
    simp only [impl_IsInstrument.j0, if_true]
    exact tsome ⟨(fun h => by simp at h), (fun h => absurd h hn)⟩
  unfold impl_IsInstrument.f
  refine tite (fun c => no (fun h => by have := h.2; omega)) (fun c1 => ?_)
  refine tite (fun c => no (fun h => by have := h.2; omega)) (fun c2 => ?_)
  refine tite (fun c => no (fun h => by have := h.2; omega)) (fun c3 => ?_)
  by_cases h : a > 20
  · rw [decide_eq_true h]
    exact no (fun h => by have := h.2; omega)
  · rw [decide_eq_false h]
    refine tstep ?_
    simp only [impl_IsInstrument.j0]
    exact tneg (by simp) (key (by omega) (by omega) (by omega) (by omega))

def Idx (l : List Int) (x i r : Int) : Prop := (r = -1 ∧ ∀ j : Int, i ≤ j → j < (l.length : Int) → rd l j ≠ x) ∨ (i ≤ r ∧ r < (l.length : Int) ∧ rd l r = x ∧ ∀ j : Int, i ≤ j → j < r → rd l j ≠ x)
theorem Idx.go {l : List Int} {x i r : Int} (hx : rd l i ≠ x) (h : Idx l x (i + 1) r) : Idx l x i r := by
  rcases h with ⟨e, h⟩ | ⟨a, b, c, h⟩
  · refine .inl ⟨e, fun j j0 j1 => ?_⟩
    by_cases e : j = i
    · rw [e]; exact hx
    · exact h j (by omega) j1
  · refine .inr ⟨by omega, b, c, fun j j0 j1 => ?_⟩
    by_cases e : j = i
    · rw [e]; exact hx
    · exact h j (by omega) j1
theorem inTrack_tot (l : List Int) (a x : Int) (hl : l.length ≤ 1048576) : Tot (fun k => spec_inTrack.f k l a x) (fun r => Idx l x 0 r) := by
  unfold spec_inTrack.f
  refine trec (σ := Int) (fun i k => spec_inTrack.l0 k x l (l.length : Int) i) (fun i => ((l.length : Int) - i).toNat) (fun i => 0 ≤ i ∧ i ≤ (l.length : Int)) (fun i r => Idx l x i r) ?_ 0 ⟨Int.le_refl _, by omega⟩
  rintro i ⟨h0, h1⟩ ih
  simp only [spec_inTrack.l0]
  refine tite (fun c => ?_) (fun c => tsome (.inl ⟨rfl, fun j j0 j1 => by omega⟩))
  refine tpos h0 (tpos c ?_)
  refine tite (fun c2 => tsome (.inr ⟨Int.le_refl _, c, c2, fun j j0 j1 => by omega⟩)) (fun c2 => ?_)
  rw [wrap64_id (by omega) (by omega)]
  exact tmono (ih (i + 1) ⟨by omega, by omega⟩ (by (try dsimp only); omega)) (fun r hr => hr.go c2)

theorem slicesIndex_tot (l : List Int) (x : Int) (hl : l.length ≤ 1048576) : Tot (fun k => slices_Index_int_int.f k l x) (fun r => Idx l x 0 r) := by
  unfold slices_Index_int_int.f
  refine trec (σ := Int) (fun i k => slices_Index_int_int.l0 k l x (l.length : Int) i) (fun i => ((l.length : Int) - i).toNat) (fun i => 0 ≤ i ∧ i ≤ (l.length : Int)) (fun i r => Idx l x i r) ?_ 0 ⟨Int.le_refl _, by omega⟩
  rintro i ⟨h0, h1⟩ ih
  simp only [slices_Index_int_int.l0]
  refine tite (fun c => ?_) (fun c => tsome (.inl ⟨rfl, fun j j0 j1 => by omega⟩))
  refine tpos h0 (tpos c ?_)
  refine tite (fun c2 => tsome (.inr ⟨Int.le_refl _, c, c2.symm, fun j j0 j1 => by omega⟩)) (fun c2 => ?_)
  rw [wrap64_id (by omega) (by omega)]
  exact tmono (ih (i + 1) ⟨by omega, by omega⟩ (by (try dsimp only); omega)) (fun r hr => hr.go (fun e => c2 e.symm))

def lastAt (l : List S80) (i : Int) : Nat → Int
  | 0 => -1
  | m + 1 => if (rd_T80 l m).f0 = (rd_T80 l i).f0 then m else lastAt l i m
theorem lastAt_range (l : List S80) (i : Int) (m : Nat) : -1 ≤ lastAt l i m ∧ lastAt l i m < m := by
  induction m with
  | zero => unfold lastAt; omega
  | succ m ih => unfold lastAt; split <;> omega
theorem lastAt_hit (l : List S80) (i : Int) (m : Nat) (h : 0 ≤ lastAt l i m) : (rd_T80 l (lastAt l i m)).f0 = (rd_T80 l i).f0 := by
  induction m with
  | zero => unfold lastAt at h; omega
  | succ m ih =>
    unfold lastAt at h ⊢
    split
    · rename_i c; exact c
    · rename_i c; rw [if_neg c] at h; exact ih h
theorem inLast_tot (l : List S80) (i : Int) (hl : l.length ≤ 1048576) (h0 : 0 ≤ i) (h1 : i < (l.length : Int)) : Tot (fun k => spec_inLast.f k l i) (fun r => r = lastAt l i i.toNat) := by
  unfold spec_inLast.f
  rw [wrap64_id (x := i - 1) (by omega) (by omega)]
  have key := trec (σ := Nat) (fun m k => spec_inLast.l0 k l i ((m : Int) - 1)) (fun m => m) (fun m => (m : Int) ≤ i) (fun m r => r = lastAt l i m) ?_ i.toNat (by omega)
  · rw [show ((i.toNat : Nat) : Int) - 1 = i - 1 by omega] at key
    exact key
  · intro m hm ih
    simp only [spec_inLast.l0, wrap64_id (x := (m : Int) - 1 - 1) (by omega) (by omega)]
    refine tite (fun c => ?_) (fun c => tsome (by rw [show m = 0 by omega]; rfl))
    refine tpos c (tpos (by omega) (tpos h0 (tpos h1 ?_)))
    obtain ⟨q, rfl⟩ : ∃ q, m = q + 1 := ⟨m - 1, by omega⟩
    rw [show ((q + 1 : Nat) : Int) - 1 = (q : Int) by omega]
    refine tite (fun c2 => tsome (by unfold lastAt; rw [if_pos c2])) (fun c2 => ?_)
    exact tmono (ih q (by omega) (by omega)) (fun r hr => by rw [hr]; conv => rhs; unfold lastAt; rw [if_neg c2])

def isFast (l : List S80) (rep i : Int) : Prop := 0 ≤ lastAt l i i.toNat ∧ (rd_T80 l i).f1 - (rd_T80 l (lastAt l i i.toNat)).f1 < rep
instance (l : List S80) (rep i : Int) : Decidable (isFast l rep i) := by unfold isFast; exact inferInstance
def fastUpto (l : List S80) (rep : Int) : Nat → List (List Int)
  | 0 => []
  | i + 1 => if isFast l rep i then fastUpto l rep i ++ [[lastAt l i (i : Int).toNat, (i : Int)]] else fastUpto l rep i
theorem fastUpto_len (l : List S80) (rep : Int) (i : Nat) : (fastUpto l rep i).length ≤ i := by
  induction i with
  | zero => simp [fastUpto]
  | succ i ih => unfold fastUpto; split <;> (try simp) <;> omega
def starts (l : List S80) : Prop := ∀ j : Int, 0 ≤ j → j < (l.length : Int) → 0 ≤ (rd_T80 l j).f1 ∧ (rd_T80 l j).f1 ≤ 999
theorem starts_of {l : List S80} (hg : ntGood l) : starts l := fun j h0 h1 => by
  have := (hg.1 j h0 h1).1
  unfold OkNote at this
  omega
theorem inFast_tot (l : List S80) (rep : Int) (hl : l.length ≤ 1048576) (hs : starts l) : Tot (fun k => spec_inFast.f k l rep) (fun r => r = fastUpto l rep l.length) := by
  unfold spec_inFast.f
  refine trec (σ := Nat) (fun i k => spec_inFast.l0 k l rep (fastUpto l rep i) l (l.length : Int) (i : Int)) (fun i => l.length - i) (fun i => i ≤ l.length) (fun _ r => r = fastUpto l rep l.length) ?_ 0 (Nat.zero_le _)
  intro i hi ih
  simp only [spec_inFast.l0, wrap64_id (x := (i : Int) + 1) (by omega) (by omega)]
  refine tite (fun c => ?_) (fun c => tsome (by rw [show i = l.length by omega]))
  refine tpos (by omega) (tpos c ?_)
  refine tbind (inLast_tot l i hl (by omega) c) (fun _ e => ?_); subst e
  have hr := lastAt_range l i (i : Int).toNat
  have hlen := fastUpto_len l rep i
  have go : ∀ o, o = fastUpto l rep (i + 1) → Tot (fun k => spec_inFast.l0 k l rep o l (l.length : Int) ((i : Int) + 1)) (fun r => r = fastUpto l rep l.length) := fun o e => by
    rw [e]
    have := ih (i + 1) (by omega) (by omega)
    simpa using this
  refine tite (fun c2 => ?_) (fun c2 => go _ (by conv => rhs; unfold fastUpto; rw [if_neg (fun h => c2 h.1)]))
  refine tpos c2 (tpos (by omega) ?_)
  have s1 := hs i (by omega) c
  have s2 := hs (lastAt l i (i : Int).toNat) c2 (by omega)
  rw [wrap64_id (by omega) (by omega)]
  refine tite (fun c3 => tpos (by omega) (go _ (by conv => rhs; unfold fastUpto; rw [if_pos ⟨c2, c3⟩]))) (fun c3 => go _ (by conv => rhs; unfold fastUpto; rw [if_neg (fun h => c3 h.2)]))
theorem implFast_tot (l : List S80) (rep : Int) (hl : l.length ≤ 1048576) (hs : starts l) : Tot (fun k => impl_fastRepeats.f k l rep) (fun r => r = fastUpto l rep l.length) := by
  unfold impl_fastRepeats.f
  refine trec (σ := Nat) (fun i k => impl_fastRepeats.l0 k l rep (fastUpto l rep i) l (l.length : Int) (i : Int)) (fun i => l.length - i) (fun i => i ≤ l.length) (fun _ r => r = fastUpto l rep l.length) ?_ 0 (Nat.zero_le _)
  intro i hi ih
  simp only [impl_fastRepeats.l0]
  refine tite (fun c => ?_) (fun c => tsome (by rw [show i = l.length by omega]))
  refine tpos (by omega) (tpos c ?_)
  rw [wrap64_id (x := (i : Int) - 1) (by omega) (by omega)]
  have hlen := fastUpto_len l rep i
  have go : ∀ o, o = fastUpto l rep (i + 1) → Tot (fun k => impl_fastRepeats.l0 k l rep o l (l.length : Int) ((i : Int) + 1)) (fun r => r = fastUpto l rep l.length) := fun o e => by
    rw [e]
    have := ih (i + 1) (by omega) (by omega)
    simpa using this
  have key := trec (σ := Nat) (fun m k => impl_fastRepeats.l1 k l rep (fastUpto l rep i) (i : Int) ((m : Int) - 1) l (l.length : Int) (i : Int) (rd_T80 l i).f0 (rd_T80 l i).f1 (rd_T80 l i).f2) (fun m => m) (fun m => (m : Int) ≤ i ∧ lastAt l i m = lastAt l i (i : Int).toNat) (fun _ r => r = fastUpto l rep l.length) ?_ i ⟨Int.le_refl _, by simp⟩
  · exact key
  · rintro m ⟨hm, he⟩ ihm
    simp only [impl_fastRepeats.l1, wrap64_id (x := (m : Int) - 1 - 1) (by omega) (by omega), wrap64_id (x := (i : Int) + 1) (by omega) (by omega)]
    refine tite (fun c2 => ?_) (fun c2 => ?_)
    · refine tpos c2 (tpos (by omega) ?_)
      obtain ⟨q, rfl⟩ : ∃ q, m = q + 1 := ⟨m - 1, by omega⟩
      simp only [show ((q + 1 : Nat) : Int) - 1 = (q : Int) by omega]
      refine tite (fun c3 => ?_) (fun c3 => ihm q ⟨by omega, by rw [← he]; conv => rhs; unfold lastAt; rw [if_neg c3]⟩ (by (try dsimp only); omega))
      have e : lastAt l i (i : Int).toNat = q := by rw [← he]; unfold lastAt; rw [if_pos c3]
      have s1 := hs i (by omega) c
      have s2 := hs q (by omega) (by omega)
      rw [wrap64_id (by omega) (by omega)]
      refine tite (fun c4 => tpos (by omega) (go _ (by conv => rhs; unfold fastUpto; rw [if_pos (show isFast l rep i from ⟨by omega, by rw [e]; exact c4⟩), e]))) (fun c4 => go _ (by conv => rhs; unfold fastUpto; rw [if_neg (fun h => c4 (by have := h.2; rw [e] at this; exact this))]))
    · obtain rfl : m = 0 := by omega
      exact go _ (by conv => rhs; unfold fastUpto; rw [if_neg (fun h => by have h1 := h.1; rw [← he] at h1; unfold lastAt at h1; omega)])
theorem fast_one (l : List S80) (hg : ntGood l) (rep : Int) (hr : rep ≤ 1) (i : Nat) (hi : i ≤ l.length) : fastUpto l rep i = [] := by
  induction i with
  | zero => rfl
  | succ i ih =>
    unfold fastUpto
    rw [if_neg, ih (by omega)]
    intro h
    obtain ⟨h1, h2⟩ := h
    have hrng := lastAt_range l i (i : Int).toNat
    have hh := lastAt_hit l i (i : Int).toNat h1
    have hm := (hg.1 i (by omega) (by omega)).2.2 _ h1 (by omega)
    have ho := (hg.1 _ h1 (show lastAt l i (i : Int).toNat < (l.length : Int) by omega)).1
    unfold ntMeet at hm
    unfold OkNote at ho
    omega

theorem specGreatest_tot (l : List S80) (hg : ntGood l) (hl : l.length ≤ 1048576) : Tot (fun k => spec_GreatestRepeat.l0 k l 20) (fun r => ∃ g, r = (g, true) ∧ 1 ≤ g ∧ g ≤ 20 ∧ (fastUpto l g l.length).length = 0 ∧ ∀ q : Int, g < q → q ≤ 20 → (fastUpto l q l.length).length ≠ 0) := by
  refine trec (σ := Int) (fun g k => spec_GreatestRepeat.l0 k l g) (fun g => g.toNat) (fun g => 1 ≤ g ∧ g ≤ 20 ∧ ∀ q : Int, g < q → q ≤ 20 → (fastUpto l q l.length).length ≠ 0) (fun _ r => ∃ g, r = (g, true) ∧ 1 ≤ g ∧ g ≤ 20 ∧ (fastUpto l g l.length).length = 0 ∧ ∀ q : Int, g < q → q ≤ 20 → (fastUpto l q l.length).length ≠ 0) ?_ 20 ⟨by omega, by omega, fun q a b => by omega⟩
  rintro g ⟨h0, h1, h2⟩ ih
  simp only [spec_GreatestRepeat.l0, wrap64_id (x := g - 1) (by omega) (by omega)]
  refine tbind (inFast_tot l g hl (starts_of hg)) (fun _ e => ?_); subst e
  refine tite (fun c => ?_) (fun c => tsome ⟨g, rfl, h0, h1, by omega, h2⟩)
  have : g ≠ 1 := fun e => by
    rw [e, fast_one l hg 1 (by omega) l.length (Nat.le_refl _)] at c
    simp at c
  exact ih (g - 1) ⟨by omega, by omega, fun q a b => by
    by_cases e : q = g
    · rw [e]; omega
    · exact h2 q (by omega) b⟩ (by (try dsimp only); omega)
theorem implGreatest_tot (l : List S80) (hg : ntGood l) (hl : l.length ≤ 1048576) : Tot (fun k => impl_GreatestRepeat.l0 k l 20) (fun r => ∃ g, r = (g, true) ∧ 1 ≤ g ∧ g ≤ 20 ∧ (fastUpto l g l.length).length = 0 ∧ ∀ q : Int, g < q → q ≤ 20 → (fastUpto l q l.length).length ≠ 0) := by
  refine trec (σ := Int) (fun g k => impl_GreatestRepeat.l0 k l g) (fun g => g.toNat) (fun g => 1 ≤ g ∧ g ≤ 20 ∧ ∀ q : Int, g < q → q ≤ 20 → (fastUpto l q l.length).length ≠ 0) (fun _ r => ∃ g, r = (g, true) ∧ 1 ≤ g ∧ g ≤ 20 ∧ (fastUpto l g l.length).length = 0 ∧ ∀ q : Int, g < q → q ≤ 20 → (fastUpto l q l.length).length ≠ 0) ?_ 20 ⟨by omega, by omega, fun q a b => by omega⟩
  rintro g ⟨h0, h1, h2⟩ ih
  simp only [impl_GreatestRepeat.l0, wrap64_id (x := g - 1) (by omega) (by omega)]
  refine tite (fun c0 => ?_) (fun c0 => tsome ⟨1, rfl, by omega, by omega, by rw [fast_one l hg 1 (by omega) l.length (Nat.le_refl _)]; rfl, fun q a b => h2 q (by omega) b⟩)
  refine tbind (implFast_tot l g hl (starts_of hg)) (fun _ e => ?_); subst e
  refine tite (fun c => tsome ⟨g, rfl, h0, h1, by omega, h2⟩) (fun c => ?_)
  exact ih (g - 1) ⟨by omega, by omega, fun q a b => by
    by_cases e : q = g
    · rw [e]; omega
    · exact h2 q (by omega) b⟩ (by (try dsimp only); omega)
theorem Idx.pos {l : List Int} {x r : Int} (h : Idx l x 0 r) : 0 ≤ r ↔ x ∈ l := by
  constructor
  · intro h0
    rcases h with ⟨e, _⟩ | ⟨a, b, c, _⟩
    · omega
    · rw [← c]; exact ld_mem r b a
  · intro hx
    rcases h with ⟨e, h⟩ | ⟨a, b, c, _⟩
    · obtain ⟨i, hi, e2⟩ := List.getElem_of_mem hx
      have := h (i : Int) (by omega) (by omega)
      unfold rd at this
      simp [List.getD, hi, e2] at this
    · omega
theorem contains_tot (l : List Int) (x : Int) (hl : l.length ≤ 1048576) : Tot (fun k => slices_Contains_int_int.f k l x) (fun b => (b = true) ↔ x ∈ l) := by
  unfold slices_Contains_int_int.f
  exact tbind (slicesIndex_tot l x hl) (fun r hr => tsome (by rw [decide_eq_true_eq]; exact hr.pos))

def putL (n : Int) : List Int → List Int
  | [] => [n]
  | x :: xs => if x < n then x :: putL n xs else if x = n then x :: xs else n :: x :: xs
theorem putL_len (n : Int) (l : List Int) : 1 ≤ (putL n l).length ∧ (putL n l).length ≤ l.length + 1 := by
  induction l with
  | nil => simp [putL]
  | cons x xs ih =>
    unfold putL
    split
    · simp; omega
    · split <;> simp
theorem putL_at (n : Int) (l : List Int) (i : Nat) (hi : i ≤ l.length) (h : ∀ j : Nat, j < i → rd l j < n) : putL n l = l.take i ++ putL n (l.drop i) := by
  induction i generalizing l with
  | zero => simp
  | succ i ih =>
    match l, hi with
    | x :: xs, hi =>
      have h0 := h 0 (by omega)
      have h0' : x < n := by simpa [rd, List.getD] using h0
      have hr : ∀ j : Nat, j < i → rd xs j < n := fun j hj => by
        have := h (j + 1) (by omega)
        simpa [rd, List.getD] using this
      have := ih xs (by simpa using hi) hr
      conv => lhs; unfold putL
      rw [if_pos h0', this]
      simp
theorem l1Put_tot (l : List Int) (n : Int) (hl : l.length ≤ 1048576) : Tot (fun k => spec_l1Put.f k l n) (fun r => r = putL n l) := by
  unfold spec_l1Put.f
  refine trec (σ := Nat) (fun i k => spec_l1Put.l0 k l n (i : Int)) (fun i => l.length - i) (fun i => i ≤ l.length ∧ ∀ j : Nat, j < i → rd l j < n) (fun _ r => r = putL n l) ?_ 0 ⟨Nat.zero_le _, fun j hj => by omega⟩
  rintro i ⟨hi, hp⟩ ih
  have hput := putL_at n l i hi hp
  simp only [spec_l1Put.l0, Option.bind_some, Int.toNat_natCast, List.nil_append, wrap64_id (x := (i : Int) + 1) (by omega) (by omega)]
  refine tite (fun c => ?_) (fun c => ?_)
  · have hlt : i < l.length := by omega
    have hd : l.drop i = rd l i :: l.drop (i + 1) := by
      rw [List.drop_eq_getElem_cons hlt]
      simp [rd, List.getD, hlt]
    refine tpos (by omega) ?_
    refine tite (fun c2 => ?_) (fun c2 => ?_)
    · have := ih (i + 1) ⟨by omega, fun j hj => by
        by_cases e : j = i
        · rw [e]; exact c2
        · exact hp j (by omega)⟩ (by omega)
      simpa using this
    · have e1 : putL n (l.drop i) = if rd l i = n then l.drop i else n :: l.drop i := by
        rw [hd]
        conv => lhs; unfold putL
        rw [if_neg c2]
      refine tite (fun c3 => tsome (by rw [hput, e1, if_pos c3, List.take_append_drop])) (fun c3 => ?_)
      refine tpos (by omega) (tpos (by simp; omega) (tpos (by simp; omega) (tpos (by simp; omega) (tsome ?_))))
      rw [hput, e1, if_neg c3, List.append_assoc]
      rfl
  · obtain rfl : i = l.length := by omega
    refine tpos (by omega) (tpos (by omega) (tpos (by simp; omega) (tpos (by simp; omega) (tpos (by simp; omega) (tsome ?_)))))
    rw [hput, List.append_assoc]
    simp [putL]

theorem Idx.neg {l : List Int} {x r : Int} (h : Idx l x 0 r) : r < 0 ↔ ¬ x ∈ l := by
  have h1 : 0 ≤ r ↔ x ∈ l := by
    constructor
    · intro h0
      rcases h with ⟨e, _⟩ | ⟨a, b, c, _⟩
      · omega
      · rw [← c]; exact ld_mem r b a
    · intro hx
      rcases h with ⟨e, h⟩ | ⟨a, b, c, _⟩
      · obtain ⟨i, hi, e2⟩ := List.getElem_of_mem hx
        have := h (i : Int) (by omega) (by omega)
        unfold rd at this
        simp [List.getD, hi, e2] at this
      · omega
  rw [← h1]
  omega

def misUpto (p : List Int) (l : List S80) : Nat → List Int
  | 0 => []
  | i + 1 => if (rd_T80 l i).f0 ∈ p then misUpto p l i else putL (rd_T80 l i).f0 (misUpto p l i)
theorem misUpto_len (p : List Int) (l : List S80) (i : Nat) : (misUpto p l i).length ≤ i := by
  induction i with
  | zero => simp [misUpto]
  | succ i ih =>
    unfold misUpto
    split
    · omega
    · have := putL_len (rd_T80 l i).f0 (misUpto p l i); omega
theorem misUpto_nil (p : List Int) (l : List S80) (i : Nat) : (misUpto p l i).length = 0 ↔ ∀ j : Nat, j < i → (rd_T80 l j).f0 ∈ p := by
  induction i with
  | zero => simp [misUpto]
  | succ i ih =>
    unfold misUpto
    split
    · rename_i c
      rw [ih]
      constructor
      · intro h j hj
        by_cases e : j = i
        · rw [e]; exact c
        · exact h j (by omega)
      · intro h j hj; exact h j (by omega)
    · rename_i c
      have := putL_len (rd_T80 l i).f0 (misUpto p l i)
      constructor
      · intro h; omega
      · intro h; exact absurd (h i (by omega)) c
theorem inMissing_tot (p : List Int) (a : Int) (l : List S80) (hp : p.length ≤ 1048576) (hl : l.length ≤ 1048576) : Tot (fun k => spec_inMissing.f k p a l) (fun r => r = misUpto p l l.length) := by
  unfold spec_inMissing.f
  refine trec (σ := Nat) (fun i k => spec_inMissing.l0 k (misUpto p l i) l (l.length : Int) (i : Int) p a) (fun i => l.length - i) (fun i => i ≤ l.length) (fun _ r => r = misUpto p l l.length) ?_ 0 (Nat.zero_le _)
  intro i hi ih
  have hlen := misUpto_len p l i
  simp only [spec_inMissing.l0, wrap64_id (x := (i : Int) + 1) (by omega) (by omega)]
  refine tite (fun c => ?_) (fun c => tsome (by rw [show i = l.length by omega]))
  refine tpos (by omega) (tpos c ?_)
  have go : ∀ o, o = misUpto p l (i + 1) → Tot (fun k => spec_inMissing.l0 k o l (l.length : Int) ((i : Int) + 1) p a) (fun r => r = misUpto p l l.length) := fun o e => by
    rw [e]
    have := ih (i + 1) (by omega) (by omega)
    simpa using this
  refine tbind (inTrack_tot p a _ hp) (fun r hr => ?_)
  refine tite (fun c2 => ?_) (fun c2 => go _ (by conv => rhs; unfold misUpto; rw [if_pos (Classical.byContradiction fun h => c2 (hr.neg.2 h))]))
  refine tbind (l1Put_tot _ _ (by omega)) (fun _ e => ?_); subst e
  exact go _ (by conv => rhs; unfold misUpto; rw [if_neg (hr.neg.1 c2)])

theorem inAsked_tot (p : List Int) (a : Int) (l : List S80) (hp : p.length ≤ 1048576) (hl : l.length ≤ 1048576) : Tot (fun k => spec_inAsked.f k p a l) (fun b => (b = true) ↔ (InGood p a ∧ ntGood l)) := by
  unfold spec_inAsked.f
  refine tbind (inGood_tot p a hp) (fun x hx => tite (fun c => ?_) (fun c => tsome ⟨(fun h => by simp at h), (fun h => absurd (hx.2 h.1) c)⟩))
  exact tbind (ntGood_tot l hl) (fun y hy => tsome ⟨fun h => ⟨hx.1 c, hy.1 h⟩, fun h => hy.2 h.2⟩)

def Plays (p : List Int) (a : Int) (l : List S80) : Prop := (∀ j : Nat, j < l.length → (rd_T80 l j).f0 ∈ p) ∧ (fastUpto l a l.length).length = 0
theorem inPlays_tot (p : List Int) (a : Int) (l : List S80) (hp : p.length ≤ 1048576) (hl : l.length ≤ 1048576) (hs : starts l) : Tot (fun k => spec_inPlays.f k p a l) (fun b => (b = true) ↔ Plays p a l) := by
  unfold spec_inPlays.f
  refine tbind (inMissing_tot p a l hp hl) (fun _ e => ?_); subst e
  have hm := misUpto_nil p l l.length
  refine tite (fun c => ?_) (fun c => tsome ⟨(fun h => by simp at h), (fun h => absurd (hm.2 h.1) (by omega))⟩)
  refine tbind (inFast_tot l a hl hs) (fun _ e => ?_); subst e
  refine tsome ?_
  rw [beq_iff_eq]
  exact ⟨fun h => ⟨hm.1 (by omega), by omega⟩, fun h => by have := h.2; omega⟩
theorem canPlay_tot (p : List Int) (a : Int) (l : List S80) (hp : p.length ≤ 1048576) (hl : l.length ≤ 1048576) (hs : starts l) : Tot (fun k => impl_canPlay.f k p a l) (fun b => (b = true) ↔ Plays p a l) := by
  unfold impl_canPlay.f
  refine trec (σ := Nat) (fun i k => impl_canPlay.l0 k l l (l.length : Int) (i : Int) p a) (fun i => l.length - i) (fun i => i ≤ l.length ∧ ∀ j : Nat, j < i → (rd_T80 l j).f0 ∈ p) (fun _ b => (b = true) ↔ Plays p a l) ?_ 0 ⟨Nat.zero_le _, fun j hj => by omega⟩
  rintro i ⟨hi, hall⟩ ih
  simp only [impl_canPlay.l0, wrap64_id (x := (i : Int) + 1) (by omega) (by omega)]
  refine tite (fun c => ?_) (fun c => ?_)
  · refine tpos (by omega) (tpos c ?_)
    refine tbind (contains_tot p _ hp) (fun b hb => ?_)
    refine tite (fun c2 => ?_) (fun c2 => tsome ⟨(fun h => by simp at h), (fun h => absurd (hb.2 (h.1 i (by omega))) c2)⟩)
    have := ih (i + 1) ⟨by omega, fun j hj => by
      by_cases e : j = i
      · rw [e]; exact hb.1 c2
      · exact hall j (by omega)⟩ (by omega)
    simpa using this
  · obtain rfl : i = l.length := by omega
    refine tbind (implFast_tot l a hl hs) (fun _ e => ?_); subst e
    refine tsome ?_
    rw [beq_iff_eq]
    exact ⟨fun h => ⟨hall, by omega⟩, fun h => by have := h.2; omega⟩

theorem tlet {α β : Type} {v : α} {g : Nat → α → Option β} {Q : β → Prop} (h : Tot (fun k => g k v) Q) : Tot (fun k => (some v).bind fun y => g k y) Q := h
theorem wrapN1 (m : Nat) (h : m ≤ 1048576) : wrap64 ((m : Int) + 1) = ((m + 1 : Nat) : Int) := by rw [wrap64_id (by omega) (by omega)]; rfl
theorem mem_putL (n y : Int) (l : List Int) : y ∈ putL n l ↔ y = n ∨ y ∈ l := by
  induction l with
  | nil => simp [putL]
  | cons x xs ih =>
    unfold putL
    split
    · rw [List.mem_cons, ih, List.mem_cons]; constructor <;> (intro h; rcases h with h | h | h <;> simp [h])
    · split
      · rename_i e; rw [List.mem_cons]; constructor
        · intro h; exact .inr h
        · intro h; rcases h with h | h
          · exact .inl (by rw [h, e])
          · exact h
      · rw [List.mem_cons]
theorem putL_sorted (n : Int) (l : List Int) (h : l.Pairwise (· < ·)) : (putL n l).Pairwise (· < ·) := by
  induction l with
  | nil => simp [putL]
  | cons x xs ih =>
    rw [List.pairwise_cons] at h
    unfold putL
    split
    · rename_i c
      rw [List.pairwise_cons]
      refine ⟨fun y hy => ?_, ih h.2⟩
      rcases (mem_putL n y xs).1 hy with e | e
      · rw [e]; exact c
      · exact h.1 y e
    · split
      · exact List.pairwise_cons.2 h
      · refine List.pairwise_cons.2 ⟨fun y hy => ?_, List.pairwise_cons.2 h⟩
        rcases List.mem_cons.1 hy with e | e
        · rw [e]; omega
        · have := h.1 y e; omega
def putAll (l : List Int) : List Int := l.foldl (fun acc x => putL x acc) []
theorem putAll_append (l : List Int) (x : Int) : putAll (l ++ [x]) = putL x (putAll l) := by
  unfold putAll
  rw [List.foldl_append]
  rfl
theorem putAll_sorted (l : List Int) : (putAll l).Pairwise (· < ·) := by
  unfold putAll
  suffices h : ∀ (l acc : List Int), acc.Pairwise (· < ·) → (l.foldl (fun acc x => putL x acc) acc).Pairwise (· < ·) from h l [] List.Pairwise.nil
  intro l
  induction l with
  | nil => intro acc h; exact h
  | cons x xs ih => intro acc h; exact ih _ (putL_sorted x acc h)
theorem putAll_mem (l : List Int) (y : Int) : y ∈ putAll l ↔ y ∈ l := by
  unfold putAll
  suffices h : ∀ (l acc : List Int), y ∈ l.foldl (fun acc x => putL x acc) acc ↔ y ∈ l ∨ y ∈ acc from (h l []).trans (by simp)
  intro l
  induction l with
  | nil => intro acc; simp
  | cons x xs ih =>
    intro acc
    rw [List.foldl_cons, ih, mem_putL, List.mem_cons]
    constructor
    · rintro (h | h | h)
      · exact .inl (.inr h)
      · exact .inl (.inl h)
      · exact .inr h
    · rintro ((h | h) | h)
      · exact .inr (.inl h)
      · exact .inl h
      · exact .inr (.inr h)
theorem sorted_unique (l m : List Int) (h1 : l.Pairwise (· ≤ ·)) (h2 : m.Pairwise (· ≤ ·)) (h : l.Perm m) : l = m :=
  List.Perm.eq_of_pairwise (fun a b _ _ x y => Int.le_antisymm x y) h1 h2 h
theorem sortI_sorted (l : List Int) : (l.mergeSort fun x y => decide (x ≤ y)).Pairwise (· ≤ ·) := by
  have := List.pairwise_mergeSort (le := fun x y : Int => decide (x ≤ y)) (fun a b c => by simp only [decide_eq_true_eq]; omega) (fun a b => by simp only [Bool.or_eq_true, decide_eq_true_eq]; omega) l
  exact this.imp (fun h => by simpa using h)
theorem sort_Ints_eq (l : List Int) (h : l.length ≤ 1048576) : sort_Ints.f l = some (l.mergeSort fun x y => decide (x ≤ y)) := by
  unfold sort_Ints.f
  rw [if_pos (Nat.lt_of_le_of_lt h (by decide))]

theorem clone_int_eq (l : List Int) (hl : l.length ≤ 1048576) : clone_int.f l = some l := by
  unfold clone_int.f
  rw [Option.bind_some, List.nil_append, if_pos (by rw [List.length_nil]; omega)]
theorem compact_props (d : Array Int) (h : ∀ i j : Nat, i < j → j < d.size → d[i]! ≤ d[j]!) (m : Nat) (hm : m ≤ d.size) : (Lib.compactUpTo d m).Pairwise (· < ·) ∧ ∀ y, y ∈ Lib.compactUpTo d m ↔ ∃ j, j < m ∧ d[j]! = y := by
  induction m with
  | zero => exact ⟨by simp [Lib.compactUpTo], fun y => by simp [Lib.compactUpTo]⟩
  | succ m ih =>
    obtain ⟨h1, h2⟩ := ih (by omega)
    rw [Lib.compactUpTo_succ]
    by_cases hk : Lib.keeps d m = true
    · rw [if_pos hk]
      have hk2 : m = 0 ∨ d[m]! ≠ d[m - 1]! := by unfold Lib.keeps at hk; exact of_decide_eq_true hk
      refine ⟨List.pairwise_append.2 ⟨h1, by simp, fun a ha b hb => ?_⟩, fun y => ?_⟩
      · obtain ⟨j, hj, e⟩ := (h2 a).1 ha
        have hb' := List.mem_singleton.1 hb
        rcases hk2 with hk2 | hk2
        · omega
        · have g1 : d[m - 1]! ≤ d[m]! := h (m - 1) m (by omega) (by omega)
          have g2 : d[j]! ≤ d[m - 1]! := by
            by_cases e2 : j = m - 1
            · rw [e2]; exact Int.le_refl _
            · exact h j (m - 1) (by omega) (by omega)
          rw [hb', ← e]
          omega
      · rw [List.mem_append, h2, List.mem_singleton]
        constructor
        · rintro (⟨j, hj, e⟩ | e)
          · exact ⟨j, by omega, e⟩
          · exact ⟨m, by omega, e.symm⟩
        · rintro ⟨j, hj, e⟩
          by_cases e2 : j = m
          · exact .inr (by rw [← e, e2])
          · exact .inl ⟨j, by omega, e⟩
    · rw [if_neg hk, List.append_nil]
      have hk2 : m ≠ 0 ∧ d[m]! = d[m - 1]! := by
        unfold Lib.keeps at hk
        have := fun hh => hk (decide_eq_true hh)
        exact ⟨fun e => this (.inl e), Classical.byContradiction fun e => this (.inr e)⟩
      refine ⟨h1, fun y => ?_⟩
      rw [h2]
      constructor
      · rintro ⟨j, hj, e⟩; exact ⟨j, by omega, e⟩
      · rintro ⟨j, hj, e⟩
        by_cases e2 : j = m
        · exact ⟨m - 1, by omega, by rw [← hk2.2, ← e2, e]⟩
        · exact ⟨j, by omega, e⟩
theorem strict_unique (l m : List Int) (h1 : l.Pairwise (· < ·)) (h2 : m.Pairwise (· < ·)) (h : ∀ y, y ∈ l ↔ y ∈ m) : l = m := by
  have n1 : l.Nodup := h1.imp (fun h => by omega)
  have n2 : m.Nodup := h2.imp (fun h => by omega)
  exact sorted_unique l m (h1.imp (fun h => Int.le_of_lt h)) (h2.imp (fun h => Int.le_of_lt h)) ((List.perm_ext_iff_of_nodup n1 n2).2 h)
theorem compact_sortI (l : List Int) : Lib.compact (l.mergeSort fun x y => decide (x ≤ y)) = putAll l := by
  obtain ⟨s, hs⟩ : ∃ s, s = l.mergeSort fun x y => decide (x ≤ y) := ⟨_, rfl⟩
  have hsort := sortI_sorted l
  have hmem : ∀ y, y ∈ s ↔ y ∈ l := fun y => by rw [hs]; exact (List.mergeSort_perm l _).mem_iff
  rw [← hs] at hsort ⊢
  have at_ : ∀ j, (h : j < s.length) → s.toArray[j]! = s[j] := fun j h => by simp [h]
  have hp := compact_props s.toArray (fun i j hij hj => by
    have hj' : j < s.length := by simpa using hj
    rw [at_ i (by omega), at_ j hj']
    exact List.pairwise_iff_getElem.1 hsort i j (by omega) hj' hij) s.length (by simp)
  refine strict_unique _ _ hp.1 (putAll_sorted l) (fun y => ?_)
  rw [putAll_mem, ← hmem]
  refine (hp.2 y).trans ?_
  rw [List.mem_iff_getElem]
  constructor
  · rintro ⟨j, hj, e⟩; exact ⟨j, hj, by rw [← at_ j hj, e]⟩
  · rintro ⟨j, hj, e⟩; exact ⟨j, hj, by rw [at_ j hj, e]⟩
theorem sortedSet_eq (l : List Int) (hl : l.length ≤ 1048576) : impl_sortedSet.f l = some (putAll l) := by
  have h2 : (l.mergeSort fun x y => decide (x ≤ y)).length = l.length := List.length_mergeSort _
  unfold impl_sortedSet.f
  rw [clone_int_eq l hl, Option.bind_some, sort_Ints_eq l hl, Option.bind_some]
  unfold compact_int.f
  rw [if_pos (by omega), Option.bind_some, compact_sortI]
def misI (p : List Int) (l : List S80) : Nat → List Int
  | 0 => []
  | i + 1 => if (rd_T80 l i).f0 ∈ p then misI p l i else misI p l i ++ [(rd_T80 l i).f0]
theorem misI_len (p : List Int) (l : List S80) (i : Nat) : (misI p l i).length ≤ i := by
  induction i with
  | zero => simp [misI]
  | succ i ih => unfold misI; split <;> (try rw [List.length_append, List.length_singleton]) <;> omega
theorem misI_put (p : List Int) (l : List S80) (i : Nat) : putAll (misI p l i) = misUpto p l i := by
  induction i with
  | zero => rfl
  | succ i ih =>
    unfold misI misUpto
    split
    · exact ih
    · rw [putAll_append, ih]
theorem implMis_tot (p : List Int) (a : Int) (l : List S80) (hp : p.length ≤ 1048576) (hl : l.length ≤ 1048576) : Tot (fun k => impl_MissingPitches.l0 k [] l (l.length : Int) 0 p a) (fun r => r = (misUpto p l l.length, true)) := by
  refine trec (σ := Nat) (fun i k => impl_MissingPitches.l0 k (misI p l i) l (l.length : Int) (i : Int) p a) (fun i => l.length - i) (fun i => i ≤ l.length) (fun _ r => r = (misUpto p l l.length, true)) ?_ 0 (Nat.zero_le _)
  intro i hi ih
  have hlen := misI_len p l i
  simp only [impl_MissingPitches.l0, wrap64_id (x := (i : Int) + 1) (by omega) (by omega)]
  refine tite (fun c => ?_) (fun c => ?_)
  · have next := ih (i + 1) (by omega) (by omega)
    refine tpos (by omega) (tpos c ?_)
    refine tbind (contains_tot p _ hp) (fun b hb => ?_)
    refine tite (fun c2 => ?_) (fun c2 => tpos (Nat.lt_of_le_of_lt hlen (by omega)) ?_)
    · rw [show misI p l (i + 1) = misI p l i by conv => lhs; unfold misI; rw [if_pos (hb.1 c2)]] at next
      simpa using next
    · rw [show misI p l (i + 1) = misI p l i ++ [(rd_T80 l i).f0] by conv => lhs; unfold misI; rw [if_neg (fun h => c2 (hb.2 h))]] at next
      simpa using next
  · obtain rfl : i = l.length := by omega
    rw [sortedSet_eq _ (by omega), misI_put]
    exact tlet (tsome rfl)
theorem rd_snoc_lt (l : List S80) (x : S80) (k : Nat) (h : k < l.length) : rd_T80 (l ++ [x]) (k : Int) = rd_T80 l (k : Int) := by
  unfold rd_T80
  rw [List.getD_eq_getElem?_getD, List.getD_eq_getElem?_getD, List.getElem?_append_left (by simpa using h)]
theorem rd_snoc_at (l : List S80) (x : S80) : rd_T80 (l ++ [x]) ((l.length : Nat) : Int) = x := by
  unfold rd_T80
  rw [List.getD_eq_getElem?_getD, Int.toNat_natCast, List.getElem?_append_right (Nat.le_refl _)]
  simp
theorem lastAt_congr (l l2 : List S80) (i i2 : Int) (hi : (rd_T80 l i).f0 = (rd_T80 l2 i2).f0) : ∀ m : Nat, (∀ k : Nat, k < m → rd_T80 l (k : Int) = rd_T80 l2 (k : Int)) → lastAt l i m = lastAt l2 i2 m
  | 0, _ => rfl
  | m + 1, h => by
    unfold lastAt
    rw [h m (by omega), hi, lastAt_congr l l2 i i2 hi m (fun k hk => h k (by omega))]
def PRel (out : List S80) (m : Int → Option Int) : Prop := ∀ x : S80, (lastAt (out ++ [x]) (out.length : Int) out.length < 0 → m x.f0 = none) ∧ (0 ≤ lastAt (out ++ [x]) (out.length : Int) out.length → m x.f0 = some (rd_T80 (out ++ [x]) (lastAt (out ++ [x]) (out.length : Int) out.length)).f1)
theorem pRel_nil : PRel [] (fun _ => none) := fun x => ⟨fun _ => rfl, fun h => absurd (show (0 : Int) ≤ -1 from h) (by omega)⟩
theorem pRel_put (out : List S80) (m : Int → Option Int) (h : PRel out m) (y : S80) : PRel (out ++ [y]) (putM_ m y.f0 y.f1) := by
  intro x
  have hlen : (out ++ [y]).length = out.length + 1 := by simp
  have hat : rd_T80 (out ++ [y] ++ [x]) ((out.length : Nat) : Int) = y := by rw [rd_snoc_lt _ _ _ (by omega), rd_snoc_at]
  have hx : rd_T80 (out ++ [y] ++ [x]) (((out ++ [y]).length : Nat) : Int) = x := rd_snoc_at _ _
  have hx2 : rd_T80 (out ++ [x]) ((out.length : Nat) : Int) = x := rd_snoc_at _ _
  have e : lastAt (out ++ [y] ++ [x]) ((out ++ [y]).length : Int) (out ++ [y]).length = if y.f0 = x.f0 then (out.length : Int) else lastAt (out ++ [x]) (out.length : Int) out.length := by
    conv => lhs; rw [show lastAt (out ++ [y] ++ [x]) ((out ++ [y]).length : Int) (out ++ [y]).length = lastAt (out ++ [y] ++ [x]) ((out ++ [y]).length : Int) (out.length + 1) by rw [hlen]]
    conv => lhs; unfold lastAt
    rw [hat, hx, lastAt_congr (out ++ [y] ++ [x]) (out ++ [x]) ((out ++ [y]).length : Int) (out.length : Int) (by rw [hx, hx2]) out.length (fun k hk => by
      rw [rd_snoc_lt _ _ _ (by omega), rd_snoc_lt _ _ _ hk, rd_snoc_lt _ _ _ hk])]
  rw [e]
  unfold putM_
  by_cases c : y.f0 = x.f0
  · rw [if_pos c, if_pos c.symm, hat]
    exact ⟨fun h => by omega, fun _ => rfl⟩
  · rw [if_neg c, if_neg (fun q => c q.symm)]
    refine ⟨(h x).1, fun h0 => ?_⟩
    have hr := lastAt_range (out ++ [x]) (out.length : Int) out.length
    obtain ⟨k, hk⟩ := Int.eq_ofNat_of_zero_le h0
    rw [(h x).2 h0, hk]
    rw [rd_snoc_lt _ _ _ (by omega), rd_snoc_lt _ _ _ (by omega), rd_snoc_lt _ _ _ (by omega)]
theorem idx_mem (p : List Int) (x t : Int) (h : Idx p x 0 t) : t ≥ 0 ↔ x ∈ p := by
  rcases h with ⟨e, h⟩ | ⟨h0, h1, h2, _⟩
  · refine ⟨fun q => by omega, fun q => ?_⟩
    obtain ⟨k, hk, rfl⟩ := List.getElem_of_mem q
    exact absurd (by unfold rd; rw [List.getD_eq_getElem?_getD]; simp [hk]) (h (k : Int) (by omega) (by omega))
  · refine ⟨fun _ => ?_, fun _ => h0⟩
    obtain ⟨k, rfl⟩ := Int.eq_ofNat_of_zero_le h0
    rw [← h2]
    unfold rd
    rw [List.getD_eq_getElem?_getD]
    have : k < p.length := by omega
    simp [this]
theorem kept_bound (out : List S80) (x : S80) (k : Int) (h0 : 0 ≤ k) (h1 : k < (out.length : Int)) (hs : ∀ e ∈ out, 0 ≤ e.f1 ∧ e.f1 ≤ 9999) : 0 ≤ (rd_T80 (out ++ [x]) k).f1 ∧ (rd_T80 (out ++ [x]) k).f1 ≤ 9999 := by
  obtain ⟨n, rfl⟩ := Int.eq_ofNat_of_zero_le h0
  have hn : n < out.length := by omega
  rw [rd_snoc_lt _ _ _ hn]
  refine hs _ ?_
  unfold rd_T80
  rw [List.getD_eq_getElem?_getD]
  simp [hn]
theorem sub_w (u v : Int) (h : 0 ≤ u ∧ u ≤ 9999) (h2 : 0 ≤ v ∧ v ≤ 9999) : wrap64 (u - v) = u - v := wrap64_id (by omega) (by omega)
theorem len_snoc {α : Type} (l : List α) (x : α) : (l ++ [x]).length = l.length + 1 := by simp
/-- The start of the last kept note of x's pitch: whether x is kept. -/
def Keep (p : List Int) (a : Int) (out : List S80) (x : S80) : Prop := x.f0 ∈ p ∧ (0 ≤ lastAt (out ++ [x]) (out.length : Int) out.length → a ≤ x.f1 - (rd_T80 (out ++ [x]) (lastAt (out ++ [x]) (out.length : Int) out.length)).f1)
theorem spec_part_j1t (p : List Int) (a : Int) (l : List S80) (i : Nat) (out o2 : List S80) (Q : List S80 → Prop) (hi : i < l.length) (hl : l.length ≤ 30) (h : Tot (fun k => spec_inPart.l0 k o2 l (l.length : Int) ((i + 1 : Nat) : Int) p a) Q) : Tot (fun k => spec_inPart.j1 k out o2 l (l.length : Int) (i : Int) true p a) Q := by
  have hw : wrap64 ((i : Int) + 1) = ((i + 1 : Nat) : Int) := by rw [wrap64_id (by omega) (by omega)]; omega
  refine tstep ?_
  simp only [spec_inPart.j1, hw]
  exact tpos (by trivial) h
theorem spec_part_j1f (p : List Int) (a : Int) (l : List S80) (i : Nat) (out o2 : List S80) (Q : List S80 → Prop) (hi : i < l.length) (hl : l.length ≤ 30) (h : Tot (fun k => spec_inPart.l0 k out l (l.length : Int) ((i + 1 : Nat) : Int) p a) Q) : Tot (fun k => spec_inPart.j1 k out o2 l (l.length : Int) (i : Int) false p a) Q := by
  have hw : wrap64 ((i : Int) + 1) = ((i + 1 : Nat) : Int) := by rw [wrap64_id (by omega) (by omega)]; omega
  refine tstep ?_
  simp only [spec_inPart.j1, hw]
  exact tneg (by simp) h
theorem spec_part_step (p : List Int) (a : Int) (l : List S80) (i : Nat) (out : List S80) (Q : List S80 → Prop) (hp : p.length ≤ 1048576) (hi : i < l.length) (hl : l.length ≤ 30) (ho : out.length ≤ i)
    (hx : 0 ≤ (rd_T80 l (i : Int)).f1 ∧ (rd_T80 l (i : Int)).f1 ≤ 9999) (hs : ∀ e ∈ out, 0 ≤ e.f1 ∧ e.f1 ≤ 9999)
    (yes : Keep p a out (rd_T80 l (i : Int)) → Tot (fun k => spec_inPart.l0 k (out ++ [rd_T80 l (i : Int)]) l (l.length : Int) ((i + 1 : Nat) : Int) p a) Q)
    (no : ¬ Keep p a out (rd_T80 l (i : Int)) → Tot (fun k => spec_inPart.l0 k out l (l.length : Int) ((i + 1 : Nat) : Int) p a) Q) :
    Tot (fun k => spec_inPart.l0 (k + 1) out l (l.length : Int) (i : Int) p a) Q := by
  have hw : wrap64 ((i : Int) + 1) = ((i + 1 : Nat) : Int) := wrapN1 i (by omega)
  have hr := lastAt_range (out ++ [rd_T80 l (i : Int)]) (out.length : Int) out.length
  have kb := fun h0 => kept_bound out (rd_T80 l (i : Int)) (lastAt (out ++ [rd_T80 l (i : Int)]) (out.length : Int) out.length) h0 hr.2 hs
  have hlen := len_snoc out (rd_T80 l (i : Int))
  unfold Keep at yes no
  simp only [spec_inPart.l0, hw]
  generalize rd_T80 l (i : Int) = x at *
  refine tpos (Int.ofNat_lt.2 hi) (tpos (Int.natCast_nonneg i) (tpos (Int.ofNat_lt.2 hi) (tlet (tpos (Nat.lt_of_le_of_lt (show ([] : List S80).length + out.length ≤ 30 by simp; omega) (by decide)) (tlet ?_)))))
  refine tlet (tpos (Nat.lt_of_le_of_lt (show ([] ++ out).length + [x].length ≤ 31 by simp; omega) (by decide)) (tlet ?_))
  rw [List.nil_append]
  refine tbind (inLast_tot (out ++ [x]) (out.length : Int) (by omega) (Int.natCast_nonneg _) (by omega)) (fun _ e => ?_); subst e
  rw [Int.toNat_natCast]
  generalize lastAt (out ++ [x]) (out.length : Int) out.length = q at *
  generalize (rd_T80 (out ++ [x]) q).f1 = v at *
  refine tbind (inTrack_tot p a x.f0 hp) (fun t ht => ?_)
  have hm := idx_mem p x.f0 t ht
  have jt := fun h => spec_part_j1t p a l i out (out ++ [x]) Q hi hl (yes h)
  have jf := fun h => spec_part_j1f p a l i out (out ++ [x]) Q hi hl (no h)
  refine tite (fun c => ?_) (fun c => jf (fun h => c (hm.2 h.1)))
  have hmem := hm.1 c
  refine tite (fun c1 => jt ⟨hmem, fun h => by omega⟩) (fun c1 => ?_)
  have h0 : 0 ≤ q := by omega
  have hq : q < ((out ++ [x]).length : Int) := by omega
  refine tpos h0 (tpos hq ?_)
  rw [sub_w _ _ hx (kb h0)]
  by_cases c2 : x.f1 - v ≥ a
  · rw [decide_eq_true c2]; exact jt ⟨hmem, fun _ => c2⟩
  · rw [decide_eq_false c2]; exact jf (fun h => c2 (h.2 h0))
theorem impl_part_step (p : List Int) (a : Int) (l : List S80) (i : Nat) (out : List S80) (m : Int → Option Int) (Q : List S80 × Bool → Prop) (hp : p.length ≤ 1048576) (hi : i < l.length) (hl : l.length ≤ 30) (ho : out.length ≤ i)
    (hx : 0 ≤ (rd_T80 l (i : Int)).f1 ∧ (rd_T80 l (i : Int)).f1 ≤ 9999) (hx0 : 0 ≤ (rd_T80 l (i : Int)).f0 ∧ (rd_T80 l (i : Int)).f0 ≤ 9999) (hs : ∀ e ∈ out, 0 ≤ e.f1 ∧ e.f1 ≤ 9999) (hR : PRel out m)
    (yes : Keep p a out (rd_T80 l (i : Int)) → Tot (fun k => impl_PlayablePart.l0 k (out ++ [rd_T80 l (i : Int)]) (putM_ m (rd_T80 l (i : Int)).f0 (rd_T80 l (i : Int)).f1) l (l.length : Int) ((i + 1 : Nat) : Int) p a) Q)
    (no : ¬ Keep p a out (rd_T80 l (i : Int)) → Tot (fun k => impl_PlayablePart.l0 k out m l (l.length : Int) ((i + 1 : Nat) : Int) p a) Q) :
    Tot (fun k => impl_PlayablePart.l0 (k + 1) out m l (l.length : Int) (i : Int) p a) Q := by
  have hw : wrap64 ((i : Int) + 1) = ((i + 1 : Nat) : Int) := wrapN1 i (by omega)
  have hr := lastAt_range (out ++ [rd_T80 l (i : Int)]) (out.length : Int) out.length
  have kb := fun h0 => kept_bound out (rd_T80 l (i : Int)) (lastAt (out ++ [rd_T80 l (i : Int)]) (out.length : Int) out.length) h0 hr.2 hs
  have hm := hR (rd_T80 l (i : Int))
  have hsz : out.length < 5864062014805 := Nat.lt_of_le_of_lt (show out.length ≤ 30 by omega) (by decide)
  unfold Keep at yes no
  simp only [impl_PlayablePart.l0, hw]
  generalize rd_T80 l (i : Int) = x at *
  have inR : inR_ x.f0 ∧ inR_ x.f1 := by unfold inR_; omega
  refine tpos (Int.ofNat_lt.2 hi) (tpos (Int.natCast_nonneg i) (tpos (Int.ofNat_lt.2 hi) (tpos inR ?_)))
  refine tbind (contains_tot p x.f0 hp) (fun b hb => ?_)
  refine tite (fun c => ?_) (fun c => no (fun h => c (hb.2 h.1)))
  have hmem := hb.1 c
  generalize lastAt (out ++ [x]) (out.length : Int) out.length = q at *
  generalize (rd_T80 (out ++ [x]) q).f1 = v at *
  by_cases h0 : 0 ≤ q
  · rw [hm.2 h0]
    refine tpos rfl ?_
    rw [Option.getD_some, sub_w _ _ hx (kb h0)]
    exact tite (fun c2 => no (fun h => by have := h.2 h0; omega)) (fun c2 => tpos hsz (yes ⟨hmem, fun _ => by omega⟩))
  · rw [hm.1 (by omega)]
    exact tneg (by simp) (tpos hsz (yes ⟨hmem, fun h => absurd h h0⟩))
theorem u64r (x : Int) : 0 ≤ IntKind.u64.wrap x ∧ IntKind.u64.wrap x < 18446744073709551616 := by
  have h : IntKind.u64.wrap x = x % 18446744073709551616 := by first | rfl | (unfold IntKind.wrap; rfl) | simp [IntKind.wrap]
  rw [h]; omega
theorem and255 (x : Int) (h0 : 0 ≤ x) (h1 : x < 18446744073709551616) : 0 ≤ bits .and .u64 x 255 ∧ bits .and .u64 x 255 ≤ 255 := by
  obtain ⟨n, rfl⟩ := Int.eq_ofNat_of_zero_le h0
  have h := bits_and_u64_nat n 255 (by omega) (by omega)
  have h2 : n &&& 255 ≤ 255 := Nat.and_le_right
  rw [show ((255 : Nat) : Int) = 255 from rfl] at h
  rw [h]; omega
def Bytes (l : List Int) : Prop := (∀ x ∈ l, 0 ≤ x ∧ x ≤ 255) ∧ l.length ≤ 1048576
def StA (b : Nat) (a : Int) : Prop := 0 ≤ a ∧ a ≤ (b : Int) ∧ b ≤ 1000000
theorem StA.up {b c : Nat} {a : Int} (h : StA b a) (hbc : b ≤ c) (hc : c ≤ 1000000) : StA c a := ⟨h.1, by have := h.2.1; omega, hc⟩
theorem rd_byte (l : List Int) (h : Bytes l) (i : Int) : 0 ≤ rd l i ∧ rd l i ≤ 255 := by
  unfold rd
  rw [List.getD_eq_getElem?_getD]
  by_cases c : i.toNat < l.length
  · rw [List.getElem?_eq_getElem c]; exact h.1 _ (List.getElem_mem c)
  · rw [List.getElem?_eq_none (by omega)]; exact ⟨Int.le_refl _, by decide⟩
theorem draw_next (l : List Int) (hl : Bytes l) (b : Nat) (a s : Int) (h : StA b a) (hb : b + 1 ≤ 1000000) : ∃ v a' s', spec_l1Cur_next.f l a s = some (v, a', s') ∧ (0 ≤ v ∧ v ≤ 255) ∧ StA (b + 1) a' := by
  have hw : wrap64 (a + 1) = a + 1 := wrap64_id (by have := h.1; omega) (by have := h.2.1; omega)
  have hS : StA (b + 1) (a + 1) := ⟨by have := h.1; omega, by have := h.2.1; omega, hb⟩
  have hr := rd_byte l hl a
  have hwr : wrap64 (rd l a) = rd l a := wrap64_id (by omega) (by omega)
  have hx : ∀ x : Int, 0 ≤ wrap64 (bits .and .u64 (IntKind.u64.wrap x / 1099511627776) 255) ∧ wrap64 (bits .and .u64 (IntKind.u64.wrap x / 1099511627776) 255) ≤ 255 := fun x => by
    have h1 := u64r x
    have h2 := and255 (IntKind.u64.wrap x / 1099511627776) (by omega) (by omega)
    rw [wrap64_id (by omega) (by omega)]; exact h2
  unfold spec_l1Cur_next.f
  rw [hw]
  by_cases c1 : a < (l.length : Int)
  · rw [if_pos c1, if_pos h.1]
    by_cases c2 : a + 1 ≤ (l.length : Int)
    · rw [if_pos c2]; exact ⟨_, _, _, rfl, by rw [hwr]; exact hr, hS⟩
    · rw [if_neg c2]; exact ⟨_, _, _, rfl, hx _, hS⟩
  · rw [if_neg c1]
    by_cases c2 : a + 1 ≤ (l.length : Int)
    · rw [if_pos c2]; exact ⟨_, _, _, rfl, ⟨Int.le_refl _, by decide⟩, hS⟩
    · rw [if_neg c2]; exact ⟨_, _, _, rfl, hx _, hS⟩
theorem draw_pick (l : List Int) (hl : Bytes l) (b : Nat) (a s n : Int) (h : StA b a) (hb : b + 2 ≤ 1000000) : ∃ v a' s', spec_l1Cur_pick.f l a s n = some (v, a', s') ∧ (0 ≤ v ∧ (v = 0 ∨ v < n)) ∧ StA (b + 2) a' := by
  unfold spec_l1Cur_pick.f
  by_cases c1 : n ≤ 1
  · rw [if_pos c1]; exact ⟨_, _, _, rfl, ⟨Int.le_refl _, Or.inl rfl⟩, h.up (by omega) hb⟩
  · rw [if_neg c1]
    obtain ⟨v, a', s', e, hv, h'⟩ := draw_next l hl b a s h (by omega)
    rw [e, Option.bind_some]
    by_cases c2 : n > 200
    · rw [if_pos c2]
      obtain ⟨v2, a2, s2, e2, hv2, h2⟩ := draw_next l hl (b + 1) a' s' h' (by omega)
      rw [e2, Option.bind_some, if_neg (by omega)]
      have hw1 : wrap64 (v * 256) = v * 256 := wrap64_id (by omega) (by omega)
      have hw2 : wrap64 (v * 256 + v2) = v * 256 + v2 := wrap64_id (by omega) (by omega)
      refine ⟨_, _, _, rfl, ?_, h2⟩
      simp only [hw1, hw2]
      exact ⟨Int.tmod_nonneg _ (by omega), Or.inr (Int.tmod_lt_of_pos _ (by omega))⟩
    · rw [if_neg c2, if_neg (by omega)]
      exact ⟨_, _, _, rfl, ⟨Int.tmod_nonneg _ hv.1, Or.inr (Int.tmod_lt_of_pos _ (by omega))⟩, h'.up (by omega) hb⟩
theorem draw_among (l : List Int) (hl : Bytes l) (b : Nat) (a s : Int) (xs : List Int) (hx : 0 < xs.length) (h : StA b a) (hb : b + 2 ≤ 1000000) : ∃ v a' s', spec_l1Cur_among.f l a s xs = some (v, a', s') ∧ v ∈ xs ∧ StA (b + 2) a' := by
  unfold spec_l1Cur_among.f
  obtain ⟨v, a', s', e, hv, h'⟩ := draw_pick l hl b a s (xs.length : Int) h hb
  rw [e, Option.bind_some, if_pos hv.1, if_pos (by omega)]
  refine ⟨_, _, _, rfl, ?_, h'⟩
  unfold rd
  have hi : v.toNat < xs.length := by omega
  simp only [List.getD_eq_getElem?_getD, List.getElem?_eq_getElem hi, Option.getD_some]
  exact List.getElem_mem hi
theorem draw_one (l : List Int) (hl : Bytes l) (b : Nat) (a s n : Int) (h : StA b a) (hb : b + 2 ≤ 1000000) : ∃ v a' s', spec_l1Cur_one.f l a s n = some (v, a', s') ∧ StA (b + 2) a' := by
  unfold spec_l1Cur_one.f
  obtain ⟨v, a', s', e, _, h'⟩ := draw_pick l hl b a s n h hb
  rw [e, Option.bind_some]
  exact ⟨_, _, _, rfl, h'⟩
theorem newCur_eq (l : List Int) : newCur.f l = some (l, 0, 0) := rfl
theorem st0 : StA 0 0 := ⟨Int.le_refl _, Int.le_refl _, by decide⟩

theorem draw_note (l : List Int) (hl : Bytes l) (b : Nat) (a s : Int) (h : StA b a) (hb : b + 12 ≤ 1000000) : ∃ p st ln a' s', spec_l1Cur_note.f l a s = some (p, st, ln, a', s') ∧ StA (b + 12) a' := by
  unfold spec_l1Cur_note.f
  obtain ⟨v1, a1, s1, e1, _, h1⟩ := draw_pick l hl b a s 73 h (by omega)
  rw [e1, Option.bind_some]
  obtain ⟨v2, a2, s2, e2, _, h2⟩ := draw_among l hl (b + 2) a1 s1 [48, 50, 52, 55, 60, 60, 62, 64, 67, 72, wrap64 (24 + v1)] (by simp) h1 (by omega)
  rw [e2, Option.bind_some]
  obtain ⟨v3, a3, s3, e3, _, h3⟩ := draw_pick l hl (b + 2 + 2) a2 s2 40 h2 (by omega)
  rw [e3, Option.bind_some]
  obtain ⟨v4, a4, s4, e4, _, h4⟩ := draw_pick l hl (b + 2 + 2 + 2) a3 s3 40 h3 (by omega)
  rw [e4, Option.bind_some]
  obtain ⟨v5, a5, s5, e5, _, h5⟩ := draw_among l hl (b + 2 + 2 + 2 + 2) a4 s4 [0, 2, 4, 8, v3, v4, 999] (by simp) h4 (by omega)
  rw [e5, Option.bind_some]
  obtain ⟨v6, a6, s6, e6, _, h6⟩ := draw_among l hl (b + 2 + 2 + 2 + 2 + 2) a5 s5 [1, 2, 2, 4, 8, 99] (by simp) h5 (by omega)
  rw [e6, Option.bind_some]
  exact ⟨_, _, _, _, _, rfl, h6⟩

theorem small3 {n : Nat} (h : n ≤ 5000) : n < 5864062014805 := Nat.lt_of_le_of_lt h (by decide)
theorem nts_put (l x4 : List S80) (i m : Nat) (hi : i < l.length) (hl : l.length ≤ 1000) (h4 : x4.length = i) (hm : m ≤ i) (a b c : Int) (Q : List S80 × Bool → Prop)
    (next : ∀ t : List S80, t.length = i + 1 → Tot (fun k => spec_ntSorted.l0 k t l (l.length : Int) ((i + 1 : Nat) : Int)) Q) : Tot (fun k => spec_ntSorted.j2 k x4 (m : Int) l (l.length : Int) (i : Int) false a b c) Q := by
  have hw : wrap64 ((i : Int) + 1) = ((i + 1 : Nat) : Int) := by rw [wrap64_id (by omega) (by omega)]; omega
  refine tstep ?_
  simp only [spec_ntSorted.j2, hw]
  refine tneg (by simp) (tlet (tpos (Int.natCast_nonneg m) (tpos (by omega) (tlet (tpos (small3 (by simp; omega)) (tlet (tlet (tpos (small3 (by simp; omega)) (tlet (tlet (tpos (small3 (by simp; omega)) ?_)))))))))))
  exact next _ (by simp; omega)
theorem nts_in1 (l x4 : List S80) (i : Nat) (hi : i < l.length) (hl : l.length ≤ 1000) (h4 : x4.length = i) (a b c : Int) (Q : List S80 × Bool → Prop)
    (next : ∀ t : List S80, t.length = i + 1 → Tot (fun k => spec_ntSorted.l0 k t l (l.length : Int) ((i + 1 : Nat) : Int)) Q) : ∀ m : Nat, m ≤ i → Tot (fun k => spec_ntSorted.l1 k x4 (m : Int) l (l.length : Int) (i : Int) a b c) Q
  | 0, hm => by
    refine tstep ?_
    simp only [spec_ntSorted.l1]
    exact tneg (by simp) (nts_put l x4 i 0 hi hl h4 hm a b c Q next)
  | m + 1, hm => by
    have hw : wrap64 (((m + 1 : Nat) : Int) - 1) = (m : Int) := by rw [wrap64_id (by omega) (by omega)]; omega
    refine tstep ?_
    simp only [spec_ntSorted.l1, hw, ntBefore_eq]
    refine tpos (by omega) (tpos (Int.natCast_nonneg m) (tpos (by omega) (tlet ?_)))
    by_cases h : b < (rd_T80 x4 (m : Int)).f1 ∨ (b = (rd_T80 x4 (m : Int)).f1 ∧ a < (rd_T80 x4 (m : Int)).f0)
    · rw [decide_eq_true h]
      refine tstep ?_
      simp only [spec_ntSorted.j2, hw]
      exact tpos (by trivial) (nts_in1 l x4 i hi hl h4 a b c Q next m (by omega))
    · rw [decide_eq_false h]
      exact nts_put l x4 i (m + 1) hi hl h4 hm a b c Q next
theorem nts_loop1 (l : List S80) (hl : l.length ≤ 1000) : ∀ (d i : Nat) (x4 : List S80), i + d = l.length → x4.length = i → Tot (fun k => spec_ntSorted.l0 k x4 l (l.length : Int) (i : Int)) (fun y => y.1.length ≤ l.length)
  | 0, i, x4, hi, h4 => by
    refine tstep ?_
    simp only [spec_ntSorted.l0]
    refine tneg (by omega) (tbind (ntGood_tot x4 (by omega)) (fun b hb => tite (fun c => tsome ?_) (fun c => tsome ?_)))
    · dsimp only; omega
    · simp
  | d + 1, i, x4, hi, h4 => by
    refine tstep ?_
    simp only [spec_ntSorted.l0]
    refine tpos (by omega) (tpos (Int.natCast_nonneg i) (tpos (by omega) ?_))
    have h := nts_in1 l x4 i (by omega) hl h4 (rd_T80 l (i : Int)).f0 (rd_T80 l (i : Int)).f1 (rd_T80 l (i : Int)).f2 _ (fun t ht => nts_loop1 l hl d (i + 1) t (by omega) ht) i (Nat.le_refl _)
    rw [h4]
    exact h
theorem ntSorted_len (l : List S80) (hl : l.length ≤ 1000) : Tot (fun k => spec_ntSorted.f k l) (fun y => y.1.length ≤ l.length) := by
  unfold spec_ntSorted.f
  exact nts_loop1 l hl l.length 0 [] (by omega) rfl

theorem draw_score_loop (l : List Int) (hl : Bytes l) (x4 : Int) (h4 : x4 ≤ 100) (b : Nat) (hb : b + 14 * 90 ≤ 1000000) : ∀ (d i : Nat) (x3 : List S80) (a s : Int), i + d = 90 → x3.length ≤ i → StA (b + 14 * i) a →
    Tot (fun k => spec_l1Cur_score.l0 k x3 x4 (i : Int) l a s) (fun r => r.1.length ≤ 90 ∧ StA (b + 14 * 90) r.2.1)
  | 0, i, x3, a, s, hi, hx, h => by
    have e : i = 90 := by omega
    subst e
    have stop : Tot (fun k => spec_l1Cur_score.j2 k x3 x4 ((90 : Nat) : Int) false l a s) (fun r => r.1.length ≤ 90 ∧ StA (b + 14 * 90) r.2.1) := by
      refine tstep ?_
      simp only [spec_l1Cur_score.j2]
      exact tneg (by simp) (tsome ⟨hx, h⟩)
    refine tstep ?_
    simp only [spec_l1Cur_score.l0]
    exact tite (fun _ => by rw [decide_eq_false (by omega)]; exact stop) (fun _ => stop)
  | d + 1, i, x3, a, s, hi, hx, h => by
    have hw : wrap64 ((i : Int) + 1) = ((i + 1 : Nat) : Int) := by rw [wrap64_id (by omega) (by omega)]; omega
    have stop : Tot (fun k => spec_l1Cur_score.j2 k x3 x4 (i : Int) false l a s) (fun r => r.1.length ≤ 90 ∧ StA (b + 14 * 90) r.2.1) := by
      refine tstep ?_
      simp only [spec_l1Cur_score.j2]
      exact tneg (by simp) (tsome ⟨by (try dsimp only); omega, h.up (by omega) (by omega)⟩)
    have go : ∀ (a' s' p q r : Int), StA (b + 14 * (i + 1)) a' → Tot (fun k => spec_l1Cur_score.j3 k x3 x4 (i : Int) l a' s' p q r) (fun r => r.1.length ≤ 90 ∧ StA (b + 14 * 90) r.2.1) := by
      intro a' s' p q r h'
      refine tstep ?_
      simp only [spec_l1Cur_score.j3, hw]
      refine tlet (tpos (small3 (by simp; omega)) (tlet (tlet (tpos (small3 (by simp; omega)) ?_))))
      refine tbind (ntSorted_len _ (by simp; omega)) (fun y hy => ?_)
      have hy2 : y.1.length ≤ x3.length + 1 := by simpa using hy
      exact tite (fun _ => draw_score_loop l hl x4 h4 b hb d (i + 1) y.1 a' s' (by omega) (by omega) h') (fun _ => draw_score_loop l hl x4 h4 b hb d (i + 1) x3 a' s' (by omega) (by omega) h')
    refine tstep ?_
    simp only [spec_l1Cur_score.l0]
    refine tite (fun _ => ?_) (fun _ => stop)
    rw [decide_eq_true (by omega)]
    refine tstep ?_
    simp only [spec_l1Cur_score.j2]
    refine tpos (by trivial) ?_
    obtain ⟨p, q, r, a1, s1, e1, h1⟩ := draw_note l hl (b + 14 * i) a s h (by omega)
    rw [e1]
    refine tlet ?_
    try dsimp only
    refine tite (fun c => ?_) (fun c => ?_)
    · obtain ⟨v2, a2, s2, e2, _, h2⟩ := draw_pick l hl (b + 14 * i + 12) a1 s1 9 h1 (by omega)
      rw [e2]
      refine tlet ?_
      try dsimp only
      exact go _ _ _ _ _ h2
    · exact go _ _ _ _ _ (h1.up (by omega) (by omega))
theorem draw_score (l : List Int) (hl : Bytes l) (b : Nat) (a s : Int) (h : StA b a) (hb : b + 1264 ≤ 1000000) : Tot (fun k => spec_l1Cur_score.f k l a s) (fun r => r.1.length ≤ 90 ∧ StA (b + 1264) r.2.1) := by
  unfold spec_l1Cur_score.f
  obtain ⟨v1, a1, s1, e1, hv1, h1⟩ := draw_pick l hl b a s 9 h (by omega)
  rw [e1]
  refine tlet ?_
  try dsimp only
  obtain ⟨v2, a2, s2, e2, h2⟩ := draw_one l hl (b + 2) a1 s1 20 h1 (by omega)
  rw [e2]
  refine tlet ?_
  try dsimp only
  have go : ∀ n : Int, n ≤ 100 → Tot (fun k => spec_l1Cur_score.j0 k [] n l a2 s2) (fun r => r.1.length ≤ 90 ∧ StA (b + 1264) r.2.1) := by
    intro n hn
    refine tstep ?_
    simp only [spec_l1Cur_score.j0]
    exact tmono (draw_score_loop l hl n hn (b + 4) (by omega) 90 0 [] a2 s2 (by omega) (by simp) h2) (fun r hr => ⟨hr.1, hr.2.up (by omega) (by omega)⟩)
  exact tite (fun _ => go 30 (by omega)) (fun _ => go v1 (by omega))

theorem draw_anyScore_fill (l : List Int) (a s : Int) : ∀ (d : Nat) (x3 : List S80), x3.length + d = 31 → Tot (fun k => spec_l1Cur_anyScore.l0 k x3 l a s) (fun r => r.1.length ≤ 100 ∧ r.2.1 = a)
  | 0, x3, h => by
    refine tstep ?_
    simp only [spec_l1Cur_anyScore.l0]
    exact tneg (by omega) (tsome ⟨by (try dsimp only); omega, rfl⟩)
  | d + 1, x3, h => by
    refine tstep ?_
    simp only [spec_l1Cur_anyScore.l0]
    exact tpos (by omega) (tpos (small3 (by omega)) (draw_anyScore_fill l a s d _ (by simp; omega)))
theorem draw_anyScore (l : List Int) (hl : Bytes l) (b : Nat) (a s : Int) (h : StA b a) (hb : b + 1270 ≤ 1000000) : Tot (fun k => spec_l1Cur_anyScore.f k l a s) (fun r => r.1.length ≤ 100 ∧ StA (b + 1270) r.2.1) := by
  unfold spec_l1Cur_anyScore.f
  refine tbind (draw_score l hl b a s h (by omega)) (fun r hr => ?_)
  obtain ⟨x, a1, s1⟩ := r
  obtain ⟨hx, h1⟩ := hr
  dsimp only at hx h1
  refine tite (fun c => ?_) (fun c => tsome ⟨by (try dsimp only); omega, h1.up (by omega) (by omega)⟩)
  obtain ⟨v2, a2, s2, e2, hv2, h2⟩ := draw_pick l hl (b + 1264) a1 s1 (x.length : Int) h1 (by omega)
  rw [e2]
  refine tlet ?_
  try dsimp only
  refine tpos hv2.1 (tpos (by dsimp only at c; omega) ?_)
  obtain ⟨v3, a3, s3, e3, _, h3⟩ := draw_pick l hl (b + 1264 + 2) a2 s2 36 h2 (by omega)
  rw [e3]
  refine tlet ?_
  try dsimp only
  have among : ∀ (xs : List Int), 0 < xs.length → ∃ v4 a4 s4, spec_l1Cur_among.f l a3 s3 xs = some (v4, a4, s4) ∧ StA (b + 1270) a4 := fun xs hxs => by
    obtain ⟨v4, a4, s4, e4, _, h4⟩ := draw_among l hl (b + 1264 + 2 + 2) a3 s3 xs hxs h3 (by omega)
    exact ⟨v4, a4, s4, e4, h4⟩
  refine tite (fun _ => ?_) (fun _ => tite (fun _ => ?_) (fun _ => tite (fun _ => ?_) (fun _ => tite (fun _ => ?_) (fun _ => tite (fun _ => ?_) (fun _ => ?_)))))
  · obtain ⟨v4, a4, s4, e4, h4⟩ := among [23, 24, 96, 97] (by simp)
    rw [e4]
    refine tlet ?_
    try dsimp only
    exact tsome ⟨by simp; omega, h4⟩
  · obtain ⟨v4, a4, s4, e4, h4⟩ := among [-1, 0, 999, 1000] (by simp)
    rw [e4]
    refine tlet ?_
    try dsimp only
    exact tsome ⟨by simp; omega, h4⟩
  · obtain ⟨v4, a4, s4, e4, h4⟩ := among [0, 99, 100] (by simp)
    rw [e4]
    refine tlet ?_
    try dsimp only
    exact tsome ⟨by simp; omega, h4⟩
  · exact tpos (by dsimp only at c; omega) (tpos (small3 (by omega)) (tsome ⟨by simp; omega, h3.up (by omega) (by omega)⟩))
  · exact tmono (draw_anyScore_fill l a3 s3 31 [] (by simp)) (fun r hr => ⟨hr.1, by rw [hr.2]; exact h3.up (by omega) (by omega)⟩)
  · exact tsome ⟨by (try dsimp only); omega, h3.up (by omega) (by omega)⟩

theorem small8 {n : Nat} (h : n ≤ 5000) : n < 17592186044416 := Nat.lt_of_le_of_lt h (by decide)
theorem draw_ins_l1 (l : List Int) (a s q : Int) : ∀ (d : Nat) (x : List Int), x.length + d = 20 → Tot (fun k => spec_l1Cur_instrument.l1 k l a s x q) (fun r => (1 ≤ r.1.length ∧ r.1.length ≤ 100) ∧ r.2.2.1 = a)
  | 0, x, h => by
    refine tstep ?_
    simp only [spec_l1Cur_instrument.l1]
    exact tneg (by omega) (tsome ⟨⟨by (try dsimp only); omega, by (try dsimp only); omega⟩, rfl⟩)
  | d + 1, x, h => by
    refine tstep ?_
    simp only [spec_l1Cur_instrument.l1]
    exact tpos (by omega) (tpos (small8 (by omega)) (draw_ins_l1 l a s q d _ (by simp; omega)))
theorem draw_ins_j3 (l : List Int) (hl : Bytes l) (b : Nat) (hb : b + 2 ≤ 1000000) (x : List Int) (hx : 1 ≤ x.length ∧ x.length ≤ 40) (a s q : Int) (h : StA b a) : Tot (fun k => spec_l1Cur_instrument.j3 k l a s x q) (fun r => (1 ≤ r.1.length ∧ r.1.length ≤ 100) ∧ StA (b + 2) r.2.2.1) := by
  refine tstep ?_
  simp only [spec_l1Cur_instrument.j3]
  obtain ⟨v1, a1, s1, e1, h1⟩ := draw_one l hl b a s 20 h (by omega)
  rw [e1]
  refine tlet ?_
  try dsimp only
  exact tite (fun _ => tmono (draw_ins_l1 l a1 s1 q 20 [] (by simp)) (fun r hr => ⟨hr.1, by rw [hr.2]; exact h1⟩)) (fun _ => tsome ⟨⟨hx.1, by have := hx.2; dsimp only; omega⟩, h1⟩)
theorem draw_ins_j2 (l : List Int) (hl : Bytes l) (b : Nat) (hb : b + 4 ≤ 1000000) (x : List Int) (hx : 1 ≤ x.length ∧ x.length ≤ 40) (a s q : Int) (h : StA b a) : Tot (fun k => spec_l1Cur_instrument.j2 k l a s x q) (fun r => (1 ≤ r.1.length ∧ r.1.length ≤ 100) ∧ StA (b + 4) r.2.2.1) := by
  refine tstep ?_
  simp only [spec_l1Cur_instrument.j2]
  obtain ⟨v1, a1, s1, e1, h1⟩ := draw_one l hl b a s 12 h (by omega)
  rw [e1]
  refine tlet ?_
  try dsimp only
  exact tite (fun _ => draw_ins_j3 l hl (b + 2) (by omega) [60] (by simp) a1 s1 q h1) (fun _ => draw_ins_j3 l hl (b + 2) (by omega) x hx a1 s1 q h1)
theorem draw_ins_j1 (l : List Int) (hl : Bytes l) (b : Nat) (hb : b + 8 ≤ 1000000) (t : Bool) (x : List Int) (hx : x.length ≤ 30) (ht : t = false → 1 ≤ x.length) (a s q : Int) (h : StA b a) : Tot (fun k => spec_l1Cur_instrument.j1 k t l a s x q) (fun r => (1 ≤ r.1.length ∧ r.1.length ≤ 100) ∧ StA (b + 8) r.2.2.1) := by
  refine tstep ?_
  simp only [spec_l1Cur_instrument.j1]
  refine tite (fun _ => ?_) (fun c => tmono (draw_ins_j2 l hl b (by omega) x ⟨ht (by simpa using c), by omega⟩ a s q h) (fun r hr => ⟨hr.1, hr.2.up (by omega) (by omega)⟩))
  obtain ⟨v1, a1, s1, e1, _, h1⟩ := draw_pick l hl b a s 73 h (by omega)
  rw [e1]
  refine tlet ?_
  try dsimp only
  obtain ⟨v2, a2, s2, e2, _, h2⟩ := draw_among l hl (b + 2) a1 s1 [24, 96, wrap64 (24 + v1)] (by simp) h1 (by omega)
  rw [e2]
  refine tlet ?_
  try dsimp only
  refine tbind (l1Put_tot x v2 (by omega)) (fun y hy => ?_)
  subst hy
  have := putL_len v2 x
  exact draw_ins_j2 l hl (b + 2 + 2) (by omega) (putL v2 x) ⟨this.1, by omega⟩ a2 s2 q h2
theorem draw_ins_l0 (l : List Int) (hl : Bytes l) (X : List Int) (hX : X.length ≤ 20) (q : Int) (b : Nat) (hb : b + 50 ≤ 1000000) : ∀ (d i : Nat) (x : List Int) (a s : Int), i + d = X.length → x.length ≤ i → StA (b + 2 * i) a →
    Tot (fun k => spec_l1Cur_instrument.l0 k X (X.length : Int) (i : Int) l a s x q) (fun r => (1 ≤ r.1.length ∧ r.1.length ≤ 100) ∧ StA (b + 50) r.2.2.1)
  | 0, i, x, a, s, hi, hx, h => by
    refine tstep ?_
    simp only [spec_l1Cur_instrument.l0]
    refine tneg (by omega) ?_
    obtain ⟨v1, a1, s1, e1, h1⟩ := draw_one l hl (b + 2 * i) a s 4 h (by omega)
    rw [e1]
    refine tlet ?_
    try dsimp only
    have go : ∀ t : Bool, (t = false → 1 ≤ x.length) → Tot (fun k => spec_l1Cur_instrument.j1 k t l a1 s1 x q) (fun r => (1 ≤ r.1.length ∧ r.1.length ≤ 100) ∧ StA (b + 50) r.2.2.1) := fun t ht => tmono (draw_ins_j1 l hl (b + 2 * i + 2) (by omega) t x (by omega) ht a1 s1 q h1) (fun r hr => ⟨hr.1, hr.2.up (by omega) (by omega)⟩)
    exact tite (fun _ => go _ (fun e => by cases e)) (fun _ => go _ (fun e => by simp at e; cases x with
      | nil => simp at e
      | cons y ys => simp))
  | d + 1, i, x, a, s, hi, hx, h => by
    have hw : wrap64 ((i : Int) + 1) = ((i + 1 : Nat) : Int) := by rw [wrap64_id (by omega) (by omega)]; omega
    refine tstep ?_
    simp only [spec_l1Cur_instrument.l0, hw]
    refine tpos (by omega) (tpos (Int.natCast_nonneg i) (tpos (by omega) ?_))
    obtain ⟨v1, a1, s1, e1, h1⟩ := draw_one l hl (b + 2 * i) a s 4 h (by omega)
    rw [e1]
    refine tlet ?_
    try dsimp only
    exact tite (fun _ => draw_ins_l0 l hl X hX q b hb d (i + 1) x a1 s1 (by omega) (by omega) h1) (fun _ => tpos (small8 (by omega)) (draw_ins_l0 l hl X hX q b hb d (i + 1) _ a1 s1 (by omega) (by simp; omega) h1))
theorem draw_instrument (l : List Int) (hl : Bytes l) (b : Nat) (a s : Int) (h : StA b a) (hb : b + 60 ≤ 1000000) : Tot (fun k => spec_l1Cur_instrument.f k l a s) (fun r => (1 ≤ r.1.length ∧ r.1.length ≤ 100) ∧ StA (b + 60) r.2.2.1) := by
  unfold spec_l1Cur_instrument.f
  obtain ⟨v1, a1, s1, e1, _, h1⟩ := draw_among l hl b a s [1, 1, 2, 3, 4, 8, 20] (by simp) h (by omega)
  rw [e1]
  refine tlet ?_
  try dsimp only
  refine tlet ?_
  exact tmono (draw_ins_l0 l hl _ (by simp) v1 (b + 2) (by omega) 15 0 [] a1 s1 (by simp) (by simp) h1) (fun r hr => ⟨hr.1, hr.2.up (by omega) (by omega)⟩)
theorem draw_anyIns_l0 (l : List Int) (a s q : Int) : ∀ (d : Nat) (x : List Int), x.length + d = 21 → Tot (fun k => spec_l1Cur_anyInstrument.l0 k l a s x q) (fun r => r.1.length ≤ 100 ∧ r.2.2.1 = a)
  | 0, x, h => by
    refine tstep ?_
    simp only [spec_l1Cur_anyInstrument.l0]
    exact tneg (by omega) (tsome ⟨by (try dsimp only); omega, rfl⟩)
  | d + 1, x, h => by
    refine tstep ?_
    simp only [spec_l1Cur_anyInstrument.l0]
    exact tpos (by omega) (tpos (small8 (by omega)) (draw_anyIns_l0 l a s q d _ (by simp; omega)))
theorem draw_anyInstrument (l : List Int) (hl : Bytes l) (b : Nat) (a s : Int) (h : StA b a) (hb : b + 70 ≤ 1000000) : Tot (fun k => spec_l1Cur_anyInstrument.f k l a s) (fun r => r.1.length ≤ 100 ∧ StA (b + 70) r.2.2.1) := by
  unfold spec_l1Cur_anyInstrument.f
  refine tbind (draw_instrument l hl b a s h (by omega)) (fun r hr => ?_)
  obtain ⟨x, q, a1, s1⟩ := r
  obtain ⟨⟨hx1, hx2⟩, h1⟩ := hr
  dsimp only at hx1 hx2 h1
  obtain ⟨v2, a2, s2, e2, _, h2⟩ := draw_pick l hl (b + 60) a1 s1 30 h1 (by omega)
  rw [e2]
  refine tlet ?_
  try dsimp only
  refine tite (fun _ => ?_) (fun _ => tite (fun _ => ?_) (fun _ => tite (fun _ => ?_) (fun _ => tite (fun _ => ?_) (fun _ => ?_))))
  · obtain ⟨v3, a3, s3, e3, _, h3⟩ := draw_among l hl (b + 60 + 2) a2 s2 [0, 21] (by simp) h2 (by omega)
    rw [e3]
    refine tlet ?_
    try dsimp only
    exact tsome ⟨hx2, h3.up (by omega) (by omega)⟩
  · obtain ⟨v3, a3, s3, e3, hv3, h3⟩ := draw_pick l hl (b + 60 + 2) a2 s2 (x.length : Int) h2 (by omega)
    rw [e3]
    refine tlet ?_
    try dsimp only
    obtain ⟨v4, a4, s4, e4, _, h4⟩ := draw_among l hl (b + 60 + 2 + 2) a3 s3 [23, 60, 97] (by simp) h3 (by omega)
    rw [e4]
    refine tlet ?_
    try dsimp only
    exact tpos hv3.1 (tpos (by (try dsimp only); omega) (tsome ⟨by simp; omega, h4.up (by omega) (by omega)⟩))
  · exact tsome ⟨by simp, h2.up (by omega) (by omega)⟩
  · exact tmono (draw_anyIns_l0 l a2 s2 q 21 [] (by simp)) (fun r hr => ⟨hr.1, by rw [hr.2]; exact h2.up (by omega) (by omega)⟩)
  · exact tsome ⟨hx2, h2.up (by omega) (by omega)⟩

theorem draw_scoreFor_loop (l : List Int) (hl : Bytes l) (p : List Int) (hp : 1 ≤ p.length) (q : Int) (X : List S80) (hX : X.length ≤ 100) (b : Nat) (hb : b + 500 ≤ 1000000) : ∀ (d i : Nat) (x6 : List S80) (a s : Int), i + d = X.length → x6.length ≤ i → StA (b + 4 * i) a →
    Tot (fun k => spec_l1Cur_scoreFor.l0 k x6 X (X.length : Int) (i : Int) l a s p q) (fun r => r.1.length = p.length ∧ r.2.2.1.length ≤ 100)
  | 0, i, x6, a, s, hi, hx, h => by
    refine tstep ?_
    simp only [spec_l1Cur_scoreFor.l0]
    exact tneg (by omega) (tsome ⟨rfl, by (try dsimp only); omega⟩)
  | d + 1, i, x6, a, s, hi, hx, h => by
    have hw : wrap64 ((i : Int) + 1) = ((i + 1 : Nat) : Int) := by rw [wrap64_id (by omega) (by omega)]; omega
    have go : ∀ (a' s' u v w : Int), StA (b + 4 * (i + 1)) a' → Tot (fun k => spec_l1Cur_scoreFor.j2 k x6 X (X.length : Int) (i : Int) l a' s' p q u v w) (fun r => r.1.length = p.length ∧ r.2.2.1.length ≤ 100) := by
      intro a' s' u v w h'
      refine tstep ?_
      simp only [spec_l1Cur_scoreFor.j2, hw]
      refine tlet (tpos (small3 (by simp; omega)) (tlet (tlet (tpos (small3 (by simp; omega)) ?_))))
      refine tbind (ntSorted_len _ (by simp; omega)) (fun y hy => ?_)
      have hy2 : y.1.length ≤ x6.length + 1 := by simpa using hy
      exact tite (fun _ => draw_scoreFor_loop l hl p hp q X hX b hb d (i + 1) y.1 a' s' (by omega) (by omega) h') (fun _ => draw_scoreFor_loop l hl p hp q X hX b hb d (i + 1) x6 a' s' (by omega) (by omega) h')
    refine tstep ?_
    simp only [spec_l1Cur_scoreFor.l0]
    refine tpos (by omega) (tpos (Int.natCast_nonneg i) (tpos (by omega) ?_))
    obtain ⟨v1, a1, s1, e1, h1⟩ := draw_one l hl (b + 4 * i) a s 6 h (by omega)
    rw [e1]
    refine tlet ?_
    try dsimp only
    refine tite (fun _ => go _ _ _ _ _ (h1.up (by omega) (by omega))) (fun _ => ?_)
    obtain ⟨v2, a2, s2, e2, hv2, h2⟩ := draw_pick l hl (b + 4 * i + 2) a1 s1 (p.length : Int) h1 (by omega)
    rw [e2]
    refine tlet ?_
    try dsimp only
    exact tpos hv2.1 (tpos (by omega) (go _ _ _ _ _ h2))
theorem draw_scoreFor (l : List Int) (hl : Bytes l) (b : Nat) (a s : Int) (h : StA b a) (hb : b + 2000 ≤ 1000000) : Tot (fun k => spec_l1Cur_scoreFor.f k l a s) (fun r => r.1.length ≤ 100 ∧ r.2.2.1.length ≤ 100) := by
  unfold spec_l1Cur_scoreFor.f
  refine tbind (draw_anyInstrument l hl b a s h (by omega)) (fun r hr => ?_)
  obtain ⟨p, q, a1, s1⟩ := r
  obtain ⟨hp, h1⟩ := hr
  dsimp only at hp h1
  refine tbind (draw_anyScore l hl (b + 70) a1 s1 h1 (by omega)) (fun r hr => ?_)
  obtain ⟨X, a2, s2⟩ := r
  obtain ⟨hX, h2⟩ := hr
  dsimp only at hX h2
  have stop : ∀ a3 s3 : Int, Tot (fun k => spec_l1Cur_scoreFor.j0 k X true l a3 s3 p q) (fun r => r.1.length ≤ 100 ∧ r.2.2.1.length ≤ 100) := fun a3 s3 => by
    refine tstep ?_
    simp only [spec_l1Cur_scoreFor.j0]
    exact tpos (by trivial) (tsome ⟨hp, hX⟩)
  refine tbind (inAsked_tot p q X (by omega) (by omega)) (fun y hy => tite (fun c => ?_) (fun _ => stop a2 s2))
  obtain ⟨v3, a3, s3, e3, h3⟩ := draw_one l hl (b + 70 + 1270) a2 s2 4 h2 (by omega)
  rw [e3]
  refine tlet ?_
  try dsimp only
  cases v3 with
  | true => exact stop a3 s3
  | false =>
    refine tstep ?_
    simp only [spec_l1Cur_scoreFor.j0]
    have hg := (hy.1 c).1
    unfold InGood at hg
    exact tneg (by simp) (tmono (draw_scoreFor_loop l hl p (by omega) q X hX (b + 70 + 1270 + 2) (by omega) X.length 0 [] a3 s3 (by omega) (by simp) h3) (fun r hr => ⟨by rw [hr.1]; exact hp, hr.2⟩))
theorem draw_MissingPitches (l : List Int) (hl : Bytes l) : Tot (fun k => spec_DrawMissingPitches.f k l) (fun r => r.1.length ≤ 100 ∧ r.2.2.length ≤ 100) := by
  unfold spec_DrawMissingPitches.f
  rw [newCur_eq]
  exact tlet (tbind (draw_scoreFor l hl 0 0 0 st0 (by omega)) (fun r hr => tsome hr))

theorem qInts_refl (l : List Int) (hl : l.length ≤ 1048576) : Tot (fun k => laws_qInts.f k l l) (fun r => r = true) := by
  unfold laws_qInts.f
  refine tpos rfl ?_
  refine trec (σ := Int) (fun i k => laws_qInts.l0 k l l (l.length : Int) i) (fun i => ((l.length : Int) - i).toNat) (fun i => 0 ≤ i ∧ i ≤ (l.length : Int)) (fun _ r => r = true) ?_ 0 ⟨Int.le_refl _, by omega⟩
  rintro i ⟨h0, h1⟩ ih
  simp only [laws_qInts.l0]
  refine tite (fun c => ?_) (fun c => tsome rfl)
  refine tpos h0 (tpos c (tpos c (tpos (by trivial) ?_)))
  rw [wrap64_id (by omega) (by omega)]
  exact ih (i + 1) ⟨by omega, by omega⟩ (by (try dsimp only); omega)

theorem qLists_refl (l : List (List Int)) (hl : l.length ≤ 1048576) (hr : ∀ r ∈ l, r.length ≤ 1048576) : Tot (fun k => laws_qLists.f k l l) (fun r => r = true) := by
  unfold laws_qLists.f
  refine tpos rfl ?_
  refine trec (σ := Int) (fun i k => laws_qLists.l0 k l l (l.length : Int) i) (fun i => ((l.length : Int) - i).toNat) (fun i => 0 ≤ i ∧ i ≤ (l.length : Int)) (fun _ r => r = true) ?_ 0 ⟨Int.le_refl _, by omega⟩
  rintro i ⟨h0, h1⟩ ih
  simp only [laws_qLists.l0]
  refine tite (fun c => ?_) (fun c => tsome rfl)
  have hm : (rd_L3 l i).length ≤ 1048576 := by
    refine hr _ ?_
    unfold rd_L3
    exact ld_mem i c h0
  refine tpos h0 (tpos c (tpos c (tbind (qInts_refl _ hm) (fun _ e => ?_)))); subst e
  refine tpos rfl ?_
  rw [wrap64_id (by omega) (by omega)]
  exact ih (i + 1) ⟨by omega, by omega⟩ (by (try dsimp only); omega)

theorem qNotes_tot (l m : List S80) (hl : l.length ≤ 1048576) : Tot (fun k => laws_qNotes.f k l m) (fun r => r = true ↔ l = m) := by
  unfold laws_qNotes.f
  refine tite (fun c => ?_) (fun c => tsome ⟨(fun h => by cases h), fun h => absurd (by rw [h]) c⟩)
  have hlen : l.length = m.length := by omega
  refine trec (σ := Int) (fun i k => laws_qNotes.l0 k l m (l.length : Int) i) (fun i => ((l.length : Int) - i).toNat) (fun i => 0 ≤ i ∧ i ≤ (l.length : Int) ∧ ∀ j : Int, 0 ≤ j → j < i → rd_T80 l j = rd_T80 m j) (fun _ r => r = true ↔ l = m) ?_ 0 ⟨Int.le_refl _, by omega, fun j h0 h1 => by omega⟩
  rintro i ⟨h0, h1, h2⟩ ih
  simp only [laws_qNotes.l0]
  refine tite (fun c => ?_) (fun c => tsome ⟨fun _ => ?_, fun _ => rfl⟩)
  · refine tpos h0 (tpos c (tpos (by omega) ?_))
    by_cases e : rd_T80 l i = rd_T80 m i
    · refine tneg (by rw [e]; simp) ?_
      rw [wrap64_id (by omega) (by omega)]
      exact ih (i + 1) ⟨by omega, by omega, fun j j0 j1 => by
        by_cases q : j = i
        · rw [q]; exact e
        · exact h2 j j0 (by omega)⟩ (by (try dsimp only); omega)
    · refine tpos ?_ (tsome ⟨(fun h => by cases h), fun h => absurd (by rw [h]) e⟩)
      have : ¬ ((rd_T80 l i).f0 = (rd_T80 m i).f0 ∧ (rd_T80 l i).f1 = (rd_T80 m i).f1 ∧ (rd_T80 l i).f2 = (rd_T80 m i).f2) := by
        rintro ⟨a1, a2, a3⟩
        apply e
        generalize rd_T80 l i = x at *
        generalize rd_T80 m i = y at *
        cases x; cases y
        simp_all
      by_cases a1 : (rd_T80 l i).f0 = (rd_T80 m i).f0 <;> by_cases a2 : (rd_T80 l i).f1 = (rd_T80 m i).f1 <;> by_cases a3 : (rd_T80 l i).f2 = (rd_T80 m i).f2 <;> simp_all
  · obtain rfl : i = (l.length : Int) := by omega
    exact ld_ext hlen (fun j j0 j1 => h2 j j0 j1)

theorem qHas_tot (l : List Int) (x : Int) (hl : l.length ≤ 1048576) : Tot (fun k => laws_qHas.f k l x) (fun r => r = true ↔ x ∈ l) := by
  unfold laws_qHas.f
  refine trec (σ := Int) (fun i k => laws_qHas.l0 k x l (l.length : Int) i) (fun i => ((l.length : Int) - i).toNat) (fun i => 0 ≤ i ∧ i ≤ (l.length : Int) ∧ ∀ j : Int, 0 ≤ j → j < i → rd l j ≠ x) (fun _ r => r = true ↔ x ∈ l) ?_ 0 ⟨Int.le_refl _, by omega, fun j h0 h1 => by omega⟩
  rintro i ⟨h0, h1, h2⟩ ih
  simp only [laws_qHas.l0]
  refine tite (fun c => ?_) (fun c => tsome ⟨(fun h => by cases h), fun h => ?_⟩)
  · refine tpos h0 (tpos c (tite (fun e => tsome ⟨fun _ => by rw [← e]; exact ld_mem i c h0, fun _ => rfl⟩) (fun e => ?_)))
    rw [wrap64_id (by omega) (by omega)]
    exact ih (i + 1) ⟨by omega, by omega, fun j j0 j1 => by
      by_cases q : j = i
      · rw [q]; exact e
      · exact h2 j j0 (by omega)⟩ (by (try dsimp only); omega)
  · obtain ⟨k, hk, rfl⟩ := List.getElem_of_mem h
    exact absurd (by unfold rd; rw [List.getD_eq_getElem?_getD]; simp [hk]) (h2 (k : Int) (by omega) (by omega))

theorem trackOf_has (l : List Int) (a x : Int) (hl : l.length ≤ 1048576) (hg : InGood l a) (hx : 24 ≤ x ∧ x ≤ 96) : Tot (fun k => impl_TrackOf.f k l a x) (fun y => y.2 = true ↔ x ∈ l) := by
  unfold impl_TrackOf.f
  refine tbind (isInstrument_tot l a hl) (fun b hb => tpos (hb.2 hg) ?_)
  simp only [isPitch_eq, Option.bind_some]
  rw [decide_eq_true hx, Bool.not_true]
  refine tstep ?_
  simp only [impl_TrackOf.j0]
  refine tneg (by simp) (tbind (slicesIndex_tot l x hl) (fun r hr => ?_))
  have hn := hr.neg
  exact tite (fun c => tsome ⟨(fun h => by cases h), fun h => absurd h (hn.1 c)⟩) (fun c => tsome ⟨fun _ => Classical.byContradiction fun h => c (hn.2 h), fun _ => rfl⟩)

theorem rd_get (l : List S80) (i : Nat) (h : i < l.length) : rd_T80 l (i : Int) = l[i] := by
  unfold rd_T80
  rw [List.getD_eq_getElem?_getD, Int.toNat_natCast, List.getElem?_eq_getElem h]
  rfl
def NtP (l : List S80) : Prop := (∀ x ∈ l, OkNote x.f0 x.f1 x.f2) ∧ l.Pairwise (fun x y => ntLess x y ∧ ¬ ntMeet x y) ∧ l.length ≤ 30
theorem ntLess_trans {x y z : S80} (h : ntLess x y) (g : ntLess y z) : ntLess x z := by
  unfold ntLess at *
  omega
theorem ntGood_iff (l : List S80) : ntGood l ↔ NtP l := by
  constructor
  · intro hg
    have hC : ∀ j : Nat, j < l.length → ntC l (j : Int) := fun j hj => hg.1 (j : Int) (by omega) (by omega)
    refine ⟨fun x hx => ?_, ?_, by have := hg.2; omega⟩
    · obtain ⟨k, hk, rfl⟩ := List.getElem_of_mem hx
      have := (hC k hk).1
      rw [rd_get l k hk] at this
      exact this
    · rw [List.pairwise_iff_getElem]
      intro i j hi hj hij
      have less : ∀ (d : Nat) (j : Nat), j = i + d + 1 → j < l.length → ntLess (rd_T80 l (i : Int)) (rd_T80 l (j : Int)) := by
        intro d
        induction d with
        | zero =>
          intro j e hj
          have := (hC j hj).2.1 (by omega)
          rw [show (j : Int) - 1 = (i : Int) by omega] at this
          exact this
        | succ d ih =>
          intro j e hj
          have h1 := ih (j - 1) (by omega) (by omega)
          have h2 := (hC j hj).2.1 (by omega)
          rw [show (j : Int) - 1 = ((j - 1 : Nat) : Int) by omega] at h2
          exact ntLess_trans h1 h2
      have h1 := less (j - i - 1) j (by omega) hj
      have h2 := (hC j hj).2.2 (i : Int) (by omega) (by omega)
      rw [rd_get l i hi, rd_get l j hj] at h1 h2
      exact ⟨h1, h2⟩
  · rintro ⟨h1, h2, h3⟩
    rw [List.pairwise_iff_getElem] at h2
    refine ⟨fun j j0 j1 => ?_, by omega⟩
    obtain ⟨n, rfl⟩ := Int.eq_ofNat_of_zero_le j0
    have hn : n < l.length := by omega
    refine ⟨by rw [rd_get l n hn]; exact h1 _ (List.getElem_mem hn), fun h => ?_, fun p p0 p1 => ?_⟩
    · rw [show ((n : Nat) : Int) - 1 = ((n - 1 : Nat) : Int) by omega, rd_get l (n - 1) (by omega), rd_get l n hn]
      exact (h2 (n - 1) n (by omega) hn (by omega)).1
    · obtain ⟨m, rfl⟩ := Int.eq_ofNat_of_zero_le p0
      rw [rd_get l m (by omega), rd_get l n hn]
      exact (h2 m n (by omega) hn (by omega)).2
theorem ntGood_sub {l m : List S80} (h : m.Sublist l) (hg : ntGood l) : ntGood m := by
  rw [ntGood_iff] at *
  exact ⟨fun x hx => hg.1 x (h.subset hx), hg.2.1.sublist h, Nat.le_trans h.length_le hg.2.2⟩

open Classical in
noncomputable def partF (p : List Int) (a : Int) : List S80 → List S80 → List S80
  | out, [] => out
  | out, x :: xs => if Keep p a out x then partF p a (out ++ [x]) xs else partF p a out xs
theorem partF_sub (p : List Int) (a : Int) : ∀ (xs out : List S80), ∃ ys, ys.Sublist xs ∧ partF p a out xs = out ++ ys
  | [], out => ⟨[], List.Sublist.refl _, by simp [partF]⟩
  | x :: xs, out => by
    unfold partF
    split
    · obtain ⟨ys, h1, h2⟩ := partF_sub p a xs (out ++ [x])
      exact ⟨x :: ys, h1.cons_cons x, by rw [h2]; simp⟩
    · obtain ⟨ys, h1, h2⟩ := partF_sub p a xs out
      exact ⟨ys, h1.cons x, h2⟩
def Kept (p : List Int) (a : Int) (l : List S80) : Prop := ∀ j : Nat, j < l.length → Keep p a (l.take j) (rd_T80 l (j : Int))
theorem kept_snoc {p : List Int} {a : Int} {out : List S80} {x : S80} (h : Kept p a out) (hx : Keep p a out x) : Kept p a (out ++ [x]) := by
  intro j hj
  rw [len_snoc] at hj
  by_cases c : j < out.length
  · rw [List.take_append_of_le_length (by omega), rd_snoc_lt _ _ _ c]; exact h j c
  · obtain rfl : j = out.length := by omega
    rw [List.take_left' rfl, rd_snoc_at]; exact hx
theorem partF_kept (p : List Int) (a : Int) : ∀ (xs out : List S80), Kept p a out → Kept p a (partF p a out xs)
  | [], out, h => h
  | x :: xs, out, h => by
    unfold partF
    split
    · rename_i c; exact partF_kept p a xs _ (kept_snoc h c)
    · exact partF_kept p a xs out h
theorem drop_rd (l : List S80) (i : Nat) (h : i < l.length) : l.drop i = rd_T80 l (i : Int) :: l.drop (i + 1) := by
  rw [List.drop_eq_getElem_cons h, rd_get l i h]
theorem take_rd (l : List S80) (i : Nat) (h : i < l.length) : l.take i ++ [rd_T80 l (i : Int)] = l.take (i + 1) := by
  rw [rd_get l i h, List.take_succ_eq_append_getElem h]
theorem partF_id (p : List Int) (a : Int) (l : List S80) (h : Kept p a l) : partF p a [] l = l := by
  have key : ∀ (d i : Nat), i + d = l.length → partF p a (l.take i) (l.drop i) = l := by
    intro d
    induction d with
    | zero => intro i hi; rw [List.drop_eq_nil_of_le (by omega), List.take_of_length_le (by omega)]; rfl
    | succ d ih =>
      intro i hi
      rw [drop_rd l i (by omega)]
      unfold partF
      rw [if_pos (h i (by omega)), take_rd l i (by omega)]
      exact ih (i + 1) (by omega)
  exact key l.length 0 (by omega)
theorem keep_at (p : List Int) (a : Int) (l : List S80) (j : Nat) (hj : j < l.length) : Keep p a (l.take j) (rd_T80 l (j : Int)) ↔ (rd_T80 l (j : Int)).f0 ∈ p ∧ ¬ isFast l a (j : Int) := by
  have hlen : (l.take j).length = j := by simp; omega
  have hr : ∀ k : Nat, k < j → rd_T80 (l.take j ++ [rd_T80 l (j : Int)]) (k : Int) = rd_T80 l (k : Int) := fun k hk => by
    rw [rd_snoc_lt _ _ _ (by omega)]
    unfold rd_T80
    exact ld_take j (k : Int) (by omega) (by omega)
  have ha : rd_T80 (l.take j ++ [rd_T80 l (j : Int)]) (j : Int) = rd_T80 l (j : Int) := by
    have := rd_snoc_at (l.take j) (rd_T80 l (j : Int))
    rw [hlen] at this
    exact this
  have e : lastAt (l.take j ++ [rd_T80 l (j : Int)]) ((l.take j).length : Int) (l.take j).length = lastAt l (j : Int) (j : Int).toNat := by
    rw [hlen, Int.toNat_natCast]
    exact lastAt_congr _ _ _ _ (by rw [ha]) j hr
  unfold Keep isFast
  rw [e]
  have hrng := lastAt_range l (j : Int) (j : Int).toNat
  by_cases h0 : 0 ≤ lastAt l (j : Int) (j : Int).toNat
  · obtain ⟨q, hq⟩ := Int.eq_ofNat_of_zero_le h0
    rw [hq] at hrng h0 ⊢
    rw [hr q (by omega)]
    constructor
    · rintro ⟨h1, h2⟩
      exact ⟨h1, fun h => by have := h2 h0; have := h.2; omega⟩
    · rintro ⟨h1, h2⟩
      exact ⟨h1, fun _ => by
        have : ¬ ((rd_T80 l (j : Int)).f1 - (rd_T80 l (q : Int)).f1 < a) := fun h => h2 ⟨h0, h⟩
        omega⟩
  · exact ⟨fun h => ⟨h.1, fun g => h0 g.1⟩, fun h => ⟨h.1, fun g => absurd g h0⟩⟩
theorem fast_nil (l : List S80) (a : Int) (n : Nat) : (fastUpto l a n).length = 0 ↔ ∀ j : Nat, j < n → ¬ isFast l a (j : Int) := by
  induction n with
  | zero => simp [fastUpto]
  | succ n ih =>
    unfold fastUpto
    split
    · rename_i c
      exact ⟨fun h => by simp at h, fun h => absurd c (h n (by omega))⟩
    · rename_i c
      rw [ih]
      exact ⟨fun h j hj => by
        by_cases e : j = n
        · rw [e]; exact c
        · exact h j (by omega), fun h j hj => h j (by omega)⟩
theorem fast_rows (l : List S80) (a : Int) (n : Nat) : ∀ r ∈ fastUpto l a n, ∃ i : Nat, i < n ∧ isFast l a (i : Int) ∧ r = [lastAt l (i : Int) (i : Int).toNat, (i : Int)] := by
  induction n with
  | zero => intro r hr; simp [fastUpto] at hr
  | succ n ih =>
    intro r hr
    unfold fastUpto at hr
    split at hr
    · rename_i c
      rcases List.mem_append.1 hr with h | h
      · obtain ⟨i, h1, h2⟩ := ih r h; exact ⟨i, by omega, h2⟩
      · exact ⟨n, by omega, c, by rw [List.mem_singleton.1 h]⟩
    · obtain ⟨i, h1, h2⟩ := ih r hr; exact ⟨i, by omega, h2⟩
theorem putL_mem (n y : Int) (l : List Int) : y ∈ putL n l ↔ y = n ∨ y ∈ l := by
  induction l with
  | nil => simp [putL]
  | cons x xs ih =>
    unfold putL
    split
    · simp only [List.mem_cons, ih]
      exact ⟨fun h => by rcases h with h | h | h <;> simp [h], fun h => by rcases h with h | h | h <;> simp [h]⟩
    · split
      · rename_i c; subst c; simp
      · simp
theorem mis_mem (p : List Int) (l : List S80) (x : Int) (n : Nat) : x ∈ misUpto p l n ↔ (∃ j : Nat, j < n ∧ (rd_T80 l (j : Int)).f0 = x) ∧ ¬ x ∈ p := by
  induction n with
  | zero => simp [misUpto]
  | succ n ih =>
    unfold misUpto
    split
    · rename_i c
      rw [ih]
      refine and_congr_left (fun hx => ⟨fun ⟨j, h1, h2⟩ => ⟨j, by omega, h2⟩, fun ⟨j, h1, h2⟩ => ⟨j, ?_, h2⟩⟩)
      by_cases e : j = n
      · rw [e] at h2; exact absurd (h2 ▸ c) hx
      · omega
    · rename_i c
      rw [putL_mem, ih]
      constructor
      · rintro (h | ⟨⟨j, h1, h2⟩, h3⟩)
        · exact ⟨⟨n, by omega, h.symm⟩, by rw [h]; exact c⟩
        · exact ⟨⟨j, by omega, h2⟩, h3⟩
      · rintro ⟨⟨j, h1, h2⟩, h3⟩
        by_cases e : j = n
        · rw [e] at h2; exact .inl h2.symm
        · exact .inr ⟨⟨j, by omega, h2⟩, h3⟩
theorem plays_iff (p : List Int) (a : Int) (l : List S80) : Plays p a l ↔ Kept p a l := by
  unfold Plays Kept
  rw [fast_nil]
  exact ⟨fun ⟨h1, h2⟩ j hj => (keep_at p a l j hj).2 ⟨h1 j hj, h2 j hj⟩, fun h => ⟨fun j hj => ((keep_at p a l j hj).1 (h j hj)).1, fun j hj => ((keep_at p a l j hj).1 (h j hj)).2⟩⟩
theorem partF_len (p : List Int) (a : Int) (l : List S80) : (partF p a [] l).length ≤ l.length := by
  obtain ⟨ys, h1, h2⟩ := partF_sub p a l []
  rw [h2, List.nil_append]
  exact h1.length_le
theorem partF_good {p : List Int} {a : Int} {l : List S80} (hg : ntGood l) : ntGood (partF p a [] l) := by
  obtain ⟨ys, h1, h2⟩ := partF_sub p a l []
  rw [h2, List.nil_append]
  exact ntGood_sub h1 hg
theorem part_id_iff (p : List Int) (a : Int) (l : List S80) : partF p a [] l = l ↔ Plays p a l := by
  rw [plays_iff]
  refine ⟨fun h => ?_, partF_id p a l⟩
  have := partF_kept p a l [] (fun j hj => by simp at hj)
  rw [h] at this
  exact this
theorem part_loop2 (p : List Int) (a : Int) (l : List S80) (hp : p.length ≤ 1048576) (hg : ntGood l) : ∀ (d i : Nat) (out : List S80) (m : Int → Option Int), i + d = l.length → PRel out m → out.length ≤ i → (∀ e ∈ out, 0 ≤ e.f1 ∧ e.f1 ≤ 9999) →
    Tot (fun k => spec_inPart.l0 k out l (l.length : Int) (i : Int) p a) (fun y => y = partF p a out (l.drop i)) ∧ Tot (fun k => impl_PlayablePart.l0 k out m l (l.length : Int) (i : Int) p a) (fun y => y = (partF p a out (l.drop i), true))
  | 0, i, out, m, hi, _, ho, _ => by
    have hn := hg.2
    rw [List.drop_eq_nil_of_le (by omega)]
    refine ⟨tstep ?_, tstep ?_⟩
    · simp only [spec_inPart.l0]; exact tneg (by omega) (tsome rfl)
    · simp only [impl_PlayablePart.l0]; exact tneg (by omega) (tsome rfl)
  | d + 1, i, out, m, hi, hR, ho, hs => by
    have hn := hg.2
    have o := (hg.1 (i : Int) (by omega) (by omega)).1
    unfold OkNote at o
    have o1 : 0 ≤ (rd_T80 l (i : Int)).f1 ∧ (rd_T80 l (i : Int)).f1 ≤ 9999 := by omega
    have o0 : 0 ≤ (rd_T80 l (i : Int)).f0 ∧ (rd_T80 l (i : Int)).f0 ≤ 9999 := by omega
    rw [drop_rd l i (by omega)]
    by_cases hk : Keep p a out (rd_T80 l (i : Int))
    · obtain ⟨h1, h2⟩ := part_loop2 p a l hp hg d (i + 1) (out ++ [rd_T80 l (i : Int)]) (putM_ m (rd_T80 l (i : Int)).f0 (rd_T80 l (i : Int)).f1) (by omega) (pRel_put out m hR _) (by rw [len_snoc]; omega) (fun e he => by
        rcases List.mem_append.1 he with he | he
        · exact hs e he
        · rw [List.mem_singleton] at he; rw [he]; exact o1)
      have e : partF p a out (rd_T80 l (i : Int) :: l.drop (i + 1)) = partF p a (out ++ [rd_T80 l (i : Int)]) (l.drop (i + 1)) := by
        conv => lhs; unfold partF
        rw [if_pos hk]
      rw [e]
      exact ⟨tstep (spec_part_step p a l i out _ hp (by omega) (by omega) ho o1 hs (fun _ => h1) (fun h => absurd hk h)), tstep (impl_part_step p a l i out m _ hp (by omega) (by omega) ho o1 o0 hs hR (fun _ => h2) (fun h => absurd hk h))⟩
    · obtain ⟨h1, h2⟩ := part_loop2 p a l hp hg d (i + 1) out m (by omega) hR (by omega) hs
      have e : partF p a out (rd_T80 l (i : Int) :: l.drop (i + 1)) = partF p a out (l.drop (i + 1)) := by
        conv => lhs; unfold partF
        rw [if_neg hk]
      rw [e]
      exact ⟨tstep (spec_part_step p a l i out _ hp (by omega) (by omega) ho o1 hs (fun h => absurd h hk) (fun _ => h1)), tstep (impl_part_step p a l i out m _ hp (by omega) (by omega) ho o1 o0 hs hR (fun h => absurd h hk) (fun _ => h2))⟩
theorem implPart_good (p : List Int) (a : Int) (l : List S80) (hp : p.length ≤ 1048576) (hg : InGood p a) (hn : ntGood l) : Tot (fun k => impl_PlayablePart.f k p a l) (fun y => y = (partF p a [] l, true)) := by
  have hl := hn.2
  unfold impl_PlayablePart.f
  refine tbind (isInstrument_tot p a hp) (fun b hb => tpos (hb.2 hg) ?_)
  refine tbind (isScore_tot l (by omega)) (fun b2 hb2 => ?_)
  rw [show b2 = true from hb2.2 hn]
  refine tstep ?_
  simp only [impl_PlayablePart.j0]
  exact tneg (by decide) (part_loop2 p a l hp hn l.length 0 [] (fun _ => none) (by omega) pRel_nil (Nat.zero_le _) (fun e he => by cases he)).2
theorem implCan_good (p : List Int) (a : Int) (l : List S80) (hp : p.length ≤ 1048576) (hg : InGood p a) (hn : ntGood l) : Tot (fun k => impl_CanPlay.f k p a l) (fun y => (y.1 = true ↔ Plays p a l) ∧ y.2 = true) := by
  have hl := hn.2
  unfold impl_CanPlay.f
  refine tbind (isInstrument_tot p a hp) (fun x hx => tpos (hx.2 hg) ?_)
  refine tbind (isScore_tot l (by omega)) (fun y hy => tpos (hy.2 hn) ?_)
  exact tbind (canPlay_tot p a l hp (by omega) (starts_of hn)) (fun z hz => tsome ⟨hz, rfl⟩)
theorem fastRep_good (p : List Int) (a : Int) (l : List S80) (hp : p.length ≤ 1048576) (hg : InGood p a) (hn : ntGood l) : Tot (fun k => spec_FastRepeats.f k p a l) (fun y => y = (fastUpto l a l.length, true)) ∧ Tot (fun k => impl_FastRepeats.f k p a l) (fun y => y = (fastUpto l a l.length, true)) := by
  have hl := hn.2
  constructor
  · unfold spec_FastRepeats.f
    refine tbind (inAsked_tot p a l hp (by omega)) (fun x hx => tpos (hx.2 ⟨hg, hn⟩) ?_)
    exact tbind (inFast_tot l a (by omega) (starts_of hn)) (fun _ e => by subst e; exact tsome rfl)
  · unfold impl_FastRepeats.f
    refine tbind (isInstrument_tot p a hp) (fun x hx => tpos (hx.2 hg) ?_)
    refine tbind (isScore_tot l (by omega)) (fun y hy => tpos (hy.2 hn) ?_)
    exact tbind (implFast_tot l a (by omega) (starts_of hn)) (fun _ e => by subst e; exact tsome rfl)
/-- What each of the law's functions answers: the good case, and the other. -/
theorem play_posts (p : List Int) (a : Int) (l : List S80) (hp : p.length ≤ 1048576) (hl : l.length ≤ 1048576) :
    (InGood p a ∧ ntGood l ∧ Tot (fun k => spec_PlayablePart.f k p a l) (fun y => y = (partF p a [] l, true)) ∧ Tot (fun k => impl_PlayablePart.f k p a l) (fun y => y = (partF p a [] l, true)) ∧
      (∃ c : Bool, (c = true ↔ Plays p a l) ∧ Tot (fun k => spec_CanPlay.f k p a l) (fun y => y = (c, true)) ∧ Tot (fun k => impl_CanPlay.f k p a l) (fun y => y = (c, true))) ∧
      Tot (fun k => spec_MissingPitches.f k p a l) (fun y => y = (misUpto p l l.length, true)) ∧ Tot (fun k => impl_MissingPitches.f k p a l) (fun y => y = (misUpto p l l.length, true)) ∧
      Tot (fun k => spec_FastRepeats.f k p a l) (fun y => y = (fastUpto l a l.length, true)) ∧ Tot (fun k => impl_FastRepeats.f k p a l) (fun y => y = (fastUpto l a l.length, true))) ∨
    (Tot (fun k => spec_PlayablePart.f k p a l) (fun y => y = ([], false)) ∧ Tot (fun k => impl_PlayablePart.f k p a l) (fun y => y = ([], false)) ∧
      Tot (fun k => spec_CanPlay.f k p a l) (fun y => y = (false, false)) ∧ Tot (fun k => impl_CanPlay.f k p a l) (fun y => y = (false, false)) ∧
      Tot (fun k => spec_MissingPitches.f k p a l) (fun y => y = ([], false)) ∧ Tot (fun k => impl_MissingPitches.f k p a l) (fun y => y = ([], false)) ∧
      Tot (fun k => spec_FastRepeats.f k p a l) (fun y => y = ([], false)) ∧ Tot (fun k => impl_FastRepeats.f k p a l) (fun y => y = ([], false))) := by
  by_cases hg : InGood p a ∧ ntGood l
  · left
    refine ⟨hg.1, hg.2, ?_, implPart_good p a l hp hg.1 hg.2, ?_, ?_, ?_, ?_, ?_⟩
    · unfold spec_PlayablePart.f
      refine tbind (inAsked_tot p a l hp hl) (fun b hb => tpos (hb.2 hg) ?_)
      unfold spec_inPart.f
      exact tbind (part_loop2 p a l hp hg.2 l.length 0 [] (fun _ => none) (by omega) pRel_nil (Nat.zero_le _) (fun e he => by cases he)).1 (fun y e => tsome (by rw [e]; rfl))
    · obtain ⟨b, hb, hB⟩ := inPlays_tot p a l hp hl (starts_of hg.2)
      refine ⟨b, hB, ?_, ?_⟩
      · unfold spec_CanPlay.f
        refine tbind (inAsked_tot p a l hp hl) (fun x hx => tpos (hx.2 hg) ?_)
        exact tbind (⟨b, hb, rfl⟩ : Tot (fun k => spec_inPlays.f k p a l) (fun y => y = b)) (fun _ e => by subst e; exact tsome rfl)
      · refine tmono (implCan_good p a l hp hg.1 hg.2) (fun y hy => ?_)
        obtain ⟨y1, y2⟩ := y
        obtain ⟨h1, h2⟩ := hy
        dsimp only at h1 h2
        rw [h2, show y1 = b by rw [Bool.eq_iff_iff, h1, hB]]
    · unfold spec_MissingPitches.f
      refine tbind (inAsked_tot p a l hp hl) (fun x hx => tpos (hx.2 hg) ?_)
      exact tbind (inMissing_tot p a l hp hl) (fun _ e => by subst e; exact tsome rfl)
    · unfold impl_MissingPitches.f
      refine tbind (isInstrument_tot p a hp) (fun x hx => tpos (hx.2 hg.1) ?_)
      refine tbind (isScore_tot l hl) (fun y hy => ?_)
      rw [hy.2 hg.2, Bool.not_true]
      refine tstep ?_
      simp only [impl_MissingPitches.j0]
      exact tneg (by simp) (implMis_tot p a l hp hl)
    · exact (fastRep_good p a l hp hg.1 hg.2).1
    · exact (fastRep_good p a l hp hg.1 hg.2).2
  · right
    have iF : Tot (fun k => impl_MissingPitches.j0 k l true p a) (fun y => y = ([], false)) := by
      refine tstep ?_
      simp only [impl_MissingPitches.j0, if_true]
      exact tsome rfl
    have nb : ∀ b : Bool, ((b = true) ↔ ntGood l) → InGood p a → b = false := fun b hb h => Bool.eq_false_iff.2 (fun q => hg ⟨h, hb.1 q⟩)
    refine ⟨?_, ?_, ?_, ?_, ?_, ?_, ?_, ?_⟩
    · unfold spec_PlayablePart.f
      exact tbind (inAsked_tot p a l hp hl) (fun b hb => tneg (fun c => hg (hb.1 c)) (tsome rfl))
    · unfold impl_PlayablePart.f
      refine tbind (isInstrument_tot p a hp) (fun b hb => tite (fun c => ?_) (fun c => ?_))
      · refine tbind (isScore_tot l hl) (fun b2 hb2 => ?_)
        rw [nb b2 hb2 (hb.1 c)]
        refine tstep ?_
        simp only [impl_PlayablePart.j0]
        exact tpos (by decide) (tsome rfl)
      · refine tstep ?_
        simp only [impl_PlayablePart.j0]
        exact tpos (by trivial) (tsome rfl)
    · unfold spec_CanPlay.f
      exact tbind (inAsked_tot p a l hp hl) (fun x hx => tneg (fun h => hg (hx.1 h)) (tsome rfl))
    · unfold impl_CanPlay.f
      refine tbind (isInstrument_tot p a hp) (fun x hx => tite (fun c => ?_) (fun c => tsome rfl))
      exact tbind (isScore_tot l hl) (fun y hy => tneg (fun h => hg ⟨hx.1 c, hy.1 h⟩) (tsome rfl))
    · unfold spec_MissingPitches.f
      exact tbind (inAsked_tot p a l hp hl) (fun x hx => tneg (fun h => hg (hx.1 h)) (tsome rfl))
    · unfold impl_MissingPitches.f
      refine tbind (isInstrument_tot p a hp) (fun x hx => tite (fun c => ?_) (fun c => iF))
      refine tbind (isScore_tot l hl) (fun y hy => ?_)
      rw [nb y hy (hx.1 c), Bool.not_false]
      exact iF
    · unfold spec_FastRepeats.f
      exact tbind (inAsked_tot p a l hp hl) (fun x hx => tneg (fun h => hg (hx.1 h)) (tsome rfl))
    · unfold impl_FastRepeats.f
      refine tbind (isInstrument_tot p a hp) (fun x hx => tite (fun c => ?_) (fun c => tsome rfl))
      exact tbind (isScore_tot l hl) (fun y hy => tneg (fun h => hg ⟨hx.1 c, hy.1 h⟩) (tsome rfl))
theorem greatest_post (l : List S80) (hl : l.length ≤ 1048576) : (ntGood l ∧ ∃ g : Int, (1 ≤ g ∧ g ≤ 20 ∧ (fastUpto l g l.length).length = 0 ∧ ∀ q : Int, g < q → q ≤ 20 → (fastUpto l q l.length).length ≠ 0) ∧ Tot (fun k => spec_GreatestRepeat.f k l) (fun y => y = (g, true)) ∧ Tot (fun k => impl_GreatestRepeat.f k l) (fun y => y = (g, true))) ∨
    (Tot (fun k => spec_GreatestRepeat.f k l) (fun y => y = (0, false)) ∧ Tot (fun k => impl_GreatestRepeat.f k l) (fun y => y = (0, false))) := by
  by_cases hg : ntGood l
  · left
    obtain ⟨r, hr, g, rfl, g1, g2, g3, g4⟩ := specGreatest_tot l hg hl
    refine ⟨hg, g, ⟨g1, g2, g3, g4⟩, ?_, ?_⟩
    · unfold spec_GreatestRepeat.f
      exact tbind (ntGood_tot l hl) (fun b hb => tpos (hb.2 hg) ⟨_, hr, rfl⟩)
    · unfold impl_GreatestRepeat.f
      refine tbind (isScore_tot l hl) (fun b hb => tpos (hb.2 hg) (tmono (implGreatest_tot l hg hl) (fun y hy => ?_)))
      obtain ⟨g', rfl, g1', g2', g3', g4'⟩ := hy
      have : g' = g := by
        rcases Int.lt_trichotomy g' g with h | h | h
        · exact absurd g3 (g4' g h g2)
        · exact h
        · exact absurd g3' (g4 g' h g2')
      rw [this]
  · right
    refine ⟨?_, ?_⟩
    · unfold spec_GreatestRepeat.f
      exact tbind (ntGood_tot l hl) (fun b hb => tneg (fun h => hg (hb.1 h)) (tsome rfl))
    · unfold impl_GreatestRepeat.f
      exact tbind (isScore_tot l hl) (fun b hb => tneg (fun h => hg (hb.1 h)) (tsome rfl))


theorem fp_l2 (p : List Int) (a : Int) (l : List S80) (hn : ntGood l) : ∀ (d i : Nat), i + d = (fastUpto l a l.length).length → Tot (fun k => laws_FnPlayable.l2 k l (fastUpto l a l.length) ((fastUpto l a l.length).length : Int) (i : Int) p a) (fun b => b = true)
  | 0, i, hi => by
    refine tstep ?_
    simp only [laws_FnPlayable.l2]
    exact tneg (by omega) (tsome rfl)
  | d + 1, i, hi => by
    have hlen := fastUpto_len l a l.length
    have hl := hn.2
    have hw : wrap64 ((i : Int) + 1) = ((i + 1 : Nat) : Int) := by rw [wrap64_id (by omega) (by omega)]; omega
    obtain ⟨n, h1, h2, e⟩ := fast_rows l a l.length (rd_L3 (fastUpto l a l.length) (i : Int)) (by unfold rd_L3; exact ld_mem (i : Int) (by omega) (by omega))
    obtain ⟨h3, h4⟩ := h2
    have hr := lastAt_range l (n : Int) (n : Int).toNat
    have hh := lastAt_hit l (n : Int) (n : Int).toNat h3
    have s1 := starts_of hn (n : Int) (by omega) (by omega)
    have s2 := starts_of hn (lastAt l (n : Int) (n : Int).toNat) h3 (by omega)
    have hsub : wrap64 ((rd_T80 l (n : Int)).f1 - (rd_T80 l (lastAt l (n : Int) (n : Int).toNat)).f1) = (rd_T80 l (n : Int)).f1 - (rd_T80 l (lastAt l (n : Int) (n : Int).toNat)).f1 := wrap64_id (by omega) (by omega)
    refine tstep ?_
    simp only [laws_FnPlayable.l2, e]
    have r0 : rd [lastAt l (n : Int) (n : Int).toNat, (n : Int)] 0 = lastAt l (n : Int) (n : Int).toNat := rfl
    have r1 : rd [lastAt l (n : Int) (n : Int).toNat, (n : Int)] 1 = (n : Int) := rfl
    rw [r0, r1]
    refine tpos (by omega) (tpos (by omega) (tpos (by omega) (tpos (by simp) (tpos h3 (tpos (by omega) (tpos (by simp) (tpos (by omega) (tpos (by omega) (tpos hh ?_)))))))))
    rw [hsub]
    refine tneg (by omega) ?_
    rw [decide_eq_false (by omega)]
    refine tstep ?_
    simp only [laws_FnPlayable.j7, hw]
    exact tneg (by simp) (fp_l2 p a l hn d (i + 1) (by omega))
theorem fp_l1 (p : List Int) (a : Int) (l : List S80) (hp : p.length ≤ 1048576) (hg : InGood p a) (hn : ntGood l) : ∀ (d i : Nat), i + d = l.length → Tot (fun k => laws_FnPlayable.l1 k l (misUpto p l l.length) (fastUpto l a l.length) l (l.length : Int) (i : Int) p a) (fun b => b = true)
  | 0, i, hi => by
    refine tstep ?_
    simp only [laws_FnPlayable.l1]
    exact tneg (by omega) (fp_l2 p a l hn _ 0 (Nat.zero_add _))
  | d + 1, i, hi => by
    have hl := hn.2
    have hw : wrap64 ((i : Int) + 1) = ((i + 1 : Nat) : Int) := by rw [wrap64_id (by omega) (by omega)]; omega
    have ho := (hn.1 (i : Int) (by omega) (by omega)).1
    unfold OkNote at ho
    refine tstep ?_
    simp only [laws_FnPlayable.l1, hw]
    refine tpos (by omega) (tpos (Int.natCast_nonneg i) (tpos (by omega) ?_))
    refine tbind (trackOf_has p a (rd_T80 l (i : Int)).f0 hp hg (by omega)) (fun y hy => ?_)
    have hm := misUpto_len p l l.length
    refine tbind (qHas_tot (misUpto p l l.length) (rd_T80 l (i : Int)).f0 (by omega)) (fun t ht => ?_)
    have key : t = !y.2 := by
      rw [Bool.eq_iff_iff, ht, mis_mem, Bool.not_eq_true', ← Bool.not_eq_true, hy]
      exact ⟨fun h => h.2, fun h => ⟨⟨i, by omega, rfl⟩, h⟩⟩
    rw [key]
    exact tneg (by cases y.2 <;> simp) (fp_l1 p a l hp hg hn d (i + 1) (by omega))
theorem fp_j3 (p : List Int) (a : Int) (l : List S80) (hp : p.length ≤ 1048576) (hg : InGood p a) (hn : ntGood l) (c : Bool) (hc : c = true ↔ Plays p a l) : Tot (fun k => laws_FnPlayable.j3 k l (partF p a [] l) true (partF p a [] l) c (misUpto p l l.length) (fastUpto l a l.length) p a) (fun b => b = true) := by
  have hl := hn.2
  have hpn : ntGood (partF p a [] l) := partF_good hn
  have hk : Kept p a (partF p a [] l) := partF_kept p a l [] (fun j hj => by simp at hj)
  have hid := partF_id p a _ hk
  have hpl := partF_len p a l
  have hM := misUpto_nil p l l.length
  refine tstep ?_
  simp only [laws_FnPlayable.j3]
  refine tpos (by trivial) (tbind (implCan_good p a _ hp hg hpn) (fun y hy => tbind (implPart_good p a _ hp hg hpn) (fun z e => ?_)))
  subst e
  dsimp only
  rw [hid]
  refine tpos hy.2 (tpos (hy.1.2 ((plays_iff p a _).2 hk)) (tpos rfl (tbind (qNotes_tot _ _ (by omega)) (fun t ht => tpos (ht.2 rfl) ?_))))
  have fin : Tot (fun k => (laws_qNotes.f k (partF p a [] l) l).bind fun t => laws_FnPlayable.j4 k l (misUpto p l l.length) (fastUpto l a l.length) (c != t) p a) (fun b => b = true) := by
    refine tbind (qNotes_tot _ _ (by omega)) (fun t ht => ?_)
    have e : (c != t) = false := by
      rw [bne_eq_false_iff_eq, Bool.eq_iff_iff, hc, ht, part_id_iff]
    rw [e]
    refine tstep ?_
    simp only [laws_FnPlayable.j4]
    exact tneg (by simp) (fp_l1 p a l hp hg hn l.length 0 (Nat.zero_add _))
  refine tite (fun h0 => ?_) (fun h0 => ?_)
  · have e : c = (((fastUpto l a l.length).length : Int) == 0) := by
      rw [Bool.eq_iff_iff, hc, beq_iff_eq]
      unfold Plays
      exact ⟨fun h => by have := h.2; omega, fun h => ⟨hM.1 (by omega), by omega⟩⟩
    exact tneg (by rw [← e]; simp) fin
  · have e : c = false := Bool.eq_false_iff.2 (fun h => h0 (by have := hM.2 ((hc.1 h).1); omega))
    exact tneg (by rw [e]; simp) fin
theorem fp_j3f (p : List Int) (a : Int) (l x7 x9 : List S80) (c : Bool) (M : List Int) (F : List (List Int)) : Tot (fun k => laws_FnPlayable.j3 k l x7 false x9 c M F p a) (fun b => b = true) := by
  refine tstep ?_
  simp only [laws_FnPlayable.j3]
  exact tneg (by simp) (tsome rfl)
theorem good60 (v : Int) (h1 : 1 ≤ v) (h2 : v ≤ 20) : InGood [60] v := by
  refine ⟨fun j j0 j1 => ?_, by simp, by simp, h1, h2⟩
  have : j = 0 := by simp at j1; omega
  subst this
  unfold InC
  exact ⟨by decide, by decide⟩
theorem fp_l0 (x6 x7 x9 : List S80) (x8 x13 : Bool) (x17 : List Int) (x21 : List (List Int)) (p : List Int) (a : Int) (J : Tot (fun k => laws_FnPlayable.j3 k x6 x7 x8 x9 x13 x17 x21 p a) (fun b => b = true)) (m : List S80) (hm : ntGood m) (g : Int)
    (g1 : 1 ≤ g) (g2 : g ≤ 20) (g3 : (fastUpto m g m.length).length = 0) (g4 : ∀ q : Int, g < q → q ≤ 20 → (fastUpto m q m.length).length ≠ 0) :
    Tot (fun k => laws_FnPlayable.l0 k x6 x7 x8 x9 x13 x17 x21 m g [g, wrap64 (g + 1)] (([g, wrap64 (g + 1)] : List Int).length : Int) 0 p a) (fun b => b = true) := by
  have hml := hm.2
  have hw : wrap64 (g + 1) = g + 1 := wrap64_id (by omega) (by omega)
  rw [hw]
  have stepv : ∀ (i : Nat) (v : Int), rd [g, g + 1] (i : Int) = v → i < 2 → 1 ≤ v → (v ≤ 20 → ((((fastUpto m v m.length).length : Int) == 0) != (v == g)) = false) → Tot (fun k => laws_FnPlayable.l0 k x6 x7 x8 x9 x13 x17 x21 m g [g, g + 1] (([g, g + 1] : List Int).length : Int) ((i + 1 : Nat) : Int) p a) (fun b => b = true) →
      Tot (fun k => laws_FnPlayable.l0 k x6 x7 x8 x9 x13 x17 x21 m g [g, g + 1] (([g, g + 1] : List Int).length : Int) (i : Int) p a) (fun b => b = true) := by
    intro i v e hi hv hF next
    have hwi : wrap64 ((i : Int) + 1) = ((i + 1 : Nat) : Int) := by rw [wrap64_id (by omega) (by omega)]; omega
    refine tstep ?_
    simp only [laws_FnPlayable.l0, e, hwi]
    refine tpos (by simp; omega) (tpos (Int.natCast_nonneg i) (tpos (by simp; omega) ?_))
    refine tite (fun _ => next) (fun h20 => ?_)
    obtain ⟨hs, hi2⟩ := fastRep_good [60] v m (by simp) (good60 v hv (by omega)) hm
    have hfl := fastUpto_len m v m.length
    refine tbind hi2 (fun _ e1 => ?_); subst e1
    refine tbind hs (fun _ e2 => ?_); subst e2
    dsimp only
    refine tpos rfl (tpos rfl (tbind (qLists_refl _ (by omega) (fun r hr => ?_)) (fun _ e3 => ?_)))
    · obtain ⟨n, _, _, e4⟩ := fast_rows m v m.length r hr
      rw [e4]; simp
    · subst e3
      refine tpos rfl ?_
      rw [hF (by omega)]
      refine tstep ?_
      simp only [laws_FnPlayable.j2, hwi]
      exact tneg (by simp) next
  have last : Tot (fun k => laws_FnPlayable.l0 k x6 x7 x8 x9 x13 x17 x21 m g [g, g + 1] (([g, g + 1] : List Int).length : Int) ((2 : Nat) : Int) p a) (fun b => b = true) := by
    refine tstep ?_
    simp only [laws_FnPlayable.l0]
    exact tneg (by simp) J
  refine stepv 0 g rfl (by omega) g1 (fun _ => by rw [g3]; simp) (stepv 1 (g + 1) rfl (by omega) (by omega) (fun h => ?_) last)
  have h4 := g4 (g + 1) (by omega) h
  rw [bne_eq_false_iff_eq, Bool.eq_iff_iff, beq_iff_eq, beq_iff_eq]
  omega
theorem fp_side (p : List Int) (a : Int) (l : List S80) (hp : p.length ≤ 1048576) (hl : l.length ≤ 1048576) : ∃ (P : List S80) (ok c : Bool) (M : List Int) (F : List (List Int)), P.length ≤ 1048576 ∧ M.length ≤ 1048576 ∧ F.length ≤ 1048576 ∧ (∀ r ∈ F, r.length ≤ 1048576) ∧
    Tot (fun k => spec_PlayablePart.f k p a l) (fun y => y = (P, ok)) ∧ Tot (fun k => impl_PlayablePart.f k p a l) (fun y => y = (P, ok)) ∧ Tot (fun k => spec_CanPlay.f k p a l) (fun y => y = (c, ok)) ∧ Tot (fun k => impl_CanPlay.f k p a l) (fun y => y = (c, ok)) ∧
    Tot (fun k => spec_MissingPitches.f k p a l) (fun y => y = (M, ok)) ∧ Tot (fun k => impl_MissingPitches.f k p a l) (fun y => y = (M, ok)) ∧ Tot (fun k => spec_FastRepeats.f k p a l) (fun y => y = (F, ok)) ∧ Tot (fun k => impl_FastRepeats.f k p a l) (fun y => y = (F, ok)) ∧
    Tot (fun k => laws_FnPlayable.j3 k l P ok P c M F p a) (fun b => b = true) := by
  rcases play_posts p a l hp hl with ⟨hg, hn, h1, h2, ⟨c, hc, h3, h4⟩, h5, h6, h7, h8⟩ | ⟨h1, h2, h3, h4, h5, h6, h7, h8⟩
  · have e1 := partF_len p a l
    have e2 := misUpto_len p l l.length
    have e3 := fastUpto_len l a l.length
    refine ⟨_, true, c, _, _, by omega, by omega, by omega, fun r hr => ?_, h1, h2, h3, h4, h5, h6, h7, h8, fp_j3 p a l hp hg hn c hc⟩
    obtain ⟨n, _, _, e4⟩ := fast_rows l a l.length r hr
    rw [e4]; simp
  · exact ⟨[], false, false, [], [], by simp, by simp, by simp, by simp, h1, h2, h3, h4, h5, h6, h7, h8, fp_j3f p a l [] [] false [] []⟩
theorem fp_other (m : List S80) (hm : m.length ≤ 1048576) : ∃ G : Int × Bool, Tot (fun k => spec_GreatestRepeat.f k m) (fun y => y = G) ∧ Tot (fun k => impl_GreatestRepeat.f k m) (fun y => y = G) ∧
    ∀ (x6 x7 x9 : List S80) (x8 x13 : Bool) (x17 : List Int) (x21 : List (List Int)) (p : List Int) (a : Int), Tot (fun k => laws_FnPlayable.j3 k x6 x7 x8 x9 x13 x17 x21 p a) (fun b => b = true) → Tot (fun k => laws_FnPlayable.j0 k x6 x7 x8 x9 x13 x17 x21 m G.2 G.1 false p a) (fun b => b = true) := by
  rcases greatest_post m hm with ⟨hn, g, ⟨g1, g2, g3, g4⟩, h1, h2⟩ | ⟨h1, h2⟩
  · refine ⟨(g, true), h1, h2, fun x6 x7 x9 x8 x13 x17 x21 p a J => ?_⟩
    refine tstep ?_
    simp only [laws_FnPlayable.j0]
    exact tneg (by simp) (tpos (by trivial) (tlet (fp_l0 x6 x7 x9 x8 x13 x17 x21 p a J m hn g g1 g2 g3 g4)))
  · refine ⟨(0, false), h1, h2, fun x6 x7 x9 x8 x13 x17 x21 p a J => ?_⟩
    refine tstep ?_
    simp only [laws_FnPlayable.j0]
    exact tneg (by simp) (tneg (by simp) J)

theorem FnPlayable : laws_FnPlayable.Pure := by
  intro l0 l1 hm0 hb0 hw0 hm1 hb1 hw1
  refine rounds ?_
  unfold laws_FnPlayable.f
  have wfb : ∀ x : Int, (Lit.int .u8 x).wf = true → 0 ≤ x ∧ x ≤ 255 := fun x h => by
    have h2 : (decide (IntKind.u8.min ≤ x) && decide (x ≤ IntKind.u8.max)) = true := h
    rw [Bool.and_eq_true, decide_eq_true_eq, decide_eq_true_eq] at h2
    exact h2
  refine tite (fun _ => tsome rfl) (fun hsz => ?_)
  have hsum : l0.length + l1.length ≤ 1048576 := by
    rw [wrap64_id (by omega) (by omega)] at hsz
    omega
  have B0 : Bytes l0 := ⟨fun x hx => wfb x (hw0 x hx), by omega⟩
  have B1 : Bytes l1 := ⟨fun x hx => wfb x (hw1 x hx), by omega⟩
  have D0 : Tot (fun k => spec_DrawPlayablePart.f k l0) (fun r => r.1.length ≤ 100 ∧ r.2.2.length ≤ 100) := by
    unfold spec_DrawPlayablePart.f
    exact tbind (draw_MissingPitches l0 B0) (fun r hr => tsome hr)
  have D1 : Tot (fun k => spec_DrawGreatestRepeat.f k l1) (fun r => r.length ≤ 100) := by
    unfold spec_DrawGreatestRepeat.f
    exact tbind (draw_MissingPitches l1 B1) (fun r hr => tsome hr.2)
  refine tbind D0 (fun A hA => ?_)
  obtain ⟨p, a, l⟩ := A
  obtain ⟨hp, hl⟩ := hA
  dsimp only at hp hl
  obtain ⟨P, ok, c, M, F, lP, lM, lF, rF, s1, i1, s2, i2, s3, i3, s4, i4, J⟩ := fp_side p a l (by omega) (by omega)
  refine tbind i1 (fun _ e => ?_); subst e
  refine tbind s1 (fun _ e => ?_); subst e
  refine tbind i2 (fun _ e => ?_); subst e
  refine tbind s2 (fun _ e => ?_); subst e
  refine tbind i3 (fun _ e => ?_); subst e
  refine tbind s3 (fun _ e => ?_); subst e
  refine tbind i4 (fun _ e => ?_); subst e
  refine tbind s4 (fun _ e => ?_); subst e
  refine tbind D1 (fun m hm => ?_)
  obtain ⟨G, s5, i5, K⟩ := fp_other m (by omega)
  refine tbind i5 (fun _ e => ?_); subst e
  refine tbind s5 (fun _ e => ?_); subst e
  refine tneg (by simp) (tbind (qNotes_tot P P lP) (fun t ht => tpos (ht.2 rfl) ?_))
  refine tneg (by simp) (tneg (by simp) (tneg (by simp) (tbind (qInts_refl M lM) (fun _ e => ?_)))); subst e
  refine tpos rfl (tneg (by simp) (tbind (qLists_refl F lF rF) (fun _ e => ?_))); subst e
  refine tpos rfl (tneg (by simp) (tpos rfl (tneg (by simp) (tneg (by simp) ?_))))
  dsimp only
  rw [show (ok != ok) = false by simp]
  exact K l P P ok c M F p a J
end Go.Proofs.Ytgeipgflhjakjaa.Pure
