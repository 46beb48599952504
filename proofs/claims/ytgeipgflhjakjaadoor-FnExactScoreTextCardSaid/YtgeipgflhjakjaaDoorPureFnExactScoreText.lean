/- The plain side of the law FnExactScoreText: lists and numbers alone. -/
import Derived.Test.YtgeipgflhjakjaaDoorPFnExactScoreTextx7
import Derived.Test.YtgeipgflhjakjaaDoorGlue
import Derived.Test.YtgeipgflhjakjaaDoorTot
set_option linter.unusedVariables false
set_option linter.unusedSimpArgs false
namespace Go.Proofs.YtgeipgflhjakjaaDoor.Pure
open Go.RowKit Go.Proofs.YtgeipgflhjakjaaDoor.PFnExactScoreText Go.Proofs.YtgeipgflhjakjaaDoorW.PrintWords Go.Proofs.YtgeipgflhjakjaaDoorW.PrintMore Go.Proofs.YtgeipgflhjakjaaDoor.Tot

theorem l1In_eq (a b c : Int) : spec_l1In.f a b c = some (decide (b ≤ a ∧ a ≤ c)) := by
  unfold spec_l1In.f
  by_cases h : b ≤ a <;> simp [h]

def cvNote (x : S56) : S54 := ⟨x.f0, x.f1, x.f2⟩
theorem toNoteS (l : List S56) (hl : l.length ≤ 1048576) : Tot (fun k => laws_toNoteS.f k l) (fun r => r = l.map cvNote) := by
  unfold laws_toNoteS.f
  refine tpos (by omega) (tpos (by omega) ?_)
  have key := trec (σ := List S54 × Int) (fun s k => laws_toNoteS.l0 k l s.1 s.2) (fun s => ((l.length : Int) - s.2).toNat)
    (fun s => 0 ≤ s.2 ∧ s.2 ≤ (l.length : Int) ∧ s.1.length = l.length ∧ ∀ j : Int, 0 ≤ j → j < s.2 → s.1.getD j.toNat z54 = cvNote (l.getD j.toNat z56)) (fun _ r => r = l.map cvNote) ?_
  · exact key (List.replicate (l.length : Int).toNat z54, 0) ⟨Int.le_refl _, by dsimp only; omega, by simp, fun j h0 h1 => by dsimp only at h1; omega⟩
  · rintro ⟨ys, i⟩ ⟨h0, h1, h2, h3⟩ ih
    dsimp only at h0 h1 h2 h3
    simp only [laws_toNoteS.l0, laws_toNote.f, Option.bind_some]
    refine tite (fun c => ?_) (fun c => ?_)
    · refine tpos h0 (tpos (by omega) ?_)
      rw [wrap64_id (by omega) (by omega)]
      refine ih (_, i + 1) ⟨by dsimp only; omega, by dsimp only; omega, by simp [h2], ?_⟩ (by dsimp only; omega)
      intro j hj0 hj1
      dsimp only at hj1 ⊢
      by_cases e : j = i
      · subst e; rw [ld_set_self _ _ (by omega) hj0]; rfl
      · rw [ld_set_ne _ _ _ h0 hj0 (by omega)]; exact h3 j hj0 (by omega)
    · exact tsome (write_end h2 (fun j a b => h3 j a (by omega)))

theorem eqNoteS (l : List S54) (hl : l.length ≤ 1048576) : Tot (fun k => laws_eqNoteS.f k l l) (fun r => r = true) := by
  unfold laws_eqNoteS.f
  refine tpos rfl ?_
  refine trec (σ := Int) (fun i k => laws_eqNoteS.l0 k l l i) (fun i => ((l.length : Int) - i).toNat) (fun i => 0 ≤ i ∧ i ≤ (l.length : Int)) (fun _ r => r = true) ?_ 0 ⟨Int.le_refl _, by omega⟩
  rintro i ⟨h0, h1⟩ ih
  simp only [laws_eqNoteS.l0, laws_eqNote.f, if_true, Option.bind_some]
  refine tite (fun c => ?_) (fun c => tsome rfl)
  refine tpos h0 (tpos (by omega) ?_)
  rw [wrap64_id (by omega) (by omega)]
  exact ih (i + 1) ⟨by omega, by omega⟩ (by (try dsimp only); omega)

theorem szNoteS (l : List S56) (n : Int) (hn : 0 ≤ n) (hn2 : n ≤ 1048576) (hl : l.length ≤ 9223372036854775807) : laws_szNoteS.f l n = some (if n < l.length then -1 else n - l.length) := by
  unfold laws_szNoteS.f
  simp (disch := omega) only [wrap64_id]
  by_cases h : n < l.length
  · rw [if_pos (by omega), if_pos h]
  · rw [if_neg (by omega), if_neg h]

abbrev OkNote (a b c : Int) : Prop := 24 ≤ a ∧ a ≤ 96 ∧ 0 ≤ b ∧ b ≤ 999 ∧ 1 ≤ c ∧ c ≤ 99
theorem ntNote_eq (a b c : Int) : spec_ntNote.f a b c = some (decide (OkNote a b c)) := by
  unfold spec_ntNote.f spec_ntPitch.f OkNote
  simp only [l1In_eq, Option.bind_some, decide_eq_true_eq]
  split
  · split
    · congr 1; rw [Bool.eq_iff_iff]; simp only [decide_eq_true_eq]; omega
    · congr 1; rw [Bool.eq_iff_iff]; simp only [decide_eq_true_eq]; simp; omega
  · congr 1; rw [Bool.eq_iff_iff]; simp only [decide_eq_true_eq]; simp; omega
theorem implIsNote_eq (a b c : Int) : impl_IsNote.f a b c = some (decide (OkNote a b c)) := by
  unfold impl_IsNote.f OkNote
  by_cases h1 : 24 ≤ a <;> by_cases h2 : a ≤ 96 <;> by_cases h3 : 0 ≤ b <;> by_cases h4 : b ≤ 999 <;> by_cases h5 : 1 ≤ c <;> simp [h1, h2, h3, h4, h5] <;> omega

def ntLess (x y : S54) : Prop := x.f1 < y.f1 ∨ (x.f1 = y.f1 ∧ x.f0 < y.f0)
def ntMeet (x y : S54) : Prop := x.f0 = y.f0 ∧ y.f1 < x.f1 + x.f2
def ntA (l : List S54) (j : Int) : Prop := OkNote (rd_T54 l j).f0 (rd_T54 l j).f1 (rd_T54 l j).f2 ∧ (0 < j → ntLess (rd_T54 l (j - 1)) (rd_T54 l j))
def ntC (l : List S54) (j : Int) : Prop := OkNote (rd_T54 l j).f0 (rd_T54 l j).f1 (rd_T54 l j).f2 ∧ (0 < j → ntLess (rd_T54 l (j - 1)) (rd_T54 l j)) ∧ (∀ p : Int, 0 ≤ p → p < j → ¬ ntMeet (rd_T54 l p) (rd_T54 l j))
theorem nt_take (l : List S54) (i p : Int) (h0 : 0 ≤ p) (h : p < i) : rd_T54 (l.take i.toNat) p = rd_T54 l p := by
  unfold rd_T54
  exact ld_take i.toNat p h0 (by omega)
theorem nt_start (l : List S54) (i : Int) (hp : ∀ j : Int, 0 ≤ j → j < i → ntC l j) (hi : 0 < i → ntLess (rd_T54 l (i - 1)) (rd_T54 l i)) (p : Int) (p0 : 0 ≤ p) (p1 : p < i) : (rd_T54 l p).f1 ≤ (rd_T54 l i).f1 := by
  have key : ∀ (d : Nat) (j : Int), j = p + d → j ≤ i → (rd_T54 l p).f1 ≤ (rd_T54 l j).f1 := by
    intro d
    induction d with
    | zero => intro j e _; rw [show j = p by omega]; exact Int.le_refl _
    | succ d ih =>
      intro j e h
      have h1 := ih (j - 1) (by omega) (by omega)
      have h2 : ntLess (rd_T54 l (j - 1)) (rd_T54 l j) := by
        by_cases e2 : j = i
        · rw [e2]; exact hi (by omega)
        · exact (hp j (by omega) (by omega)).2.1 (by omega)
      unfold ntLess at h2
      omega
  exact key (i - p).toNat i (by omega) (Int.le_refl _)

def ntGood (l : List S54) : Prop := (∀ j : Int, 0 ≤ j → j < (l.length : Int) → ntC l j) ∧ (l.length : Int) ≤ 30
theorem ntBefore_eq (a b c d e f : Int) : spec_ntBefore.f a b c d e f = some (decide (b < e ∨ (b = e ∧ a < d))) := by
  unfold spec_ntBefore.f
  by_cases h1 : b < e <;> by_cases h2 : b = e <;> simp [h1, h2]
theorem noteLess_eq (a b c d e f : Int) : impl_noteLess.f a b c d e f = some (decide (b < e ∨ (b = e ∧ a < d))) := by
  unfold impl_noteLess.f
  by_cases h2 : b = e
  · subst h2; simp
  · simp [h2]
theorem ntMeet_eq (a b c d e f : Int) (h : OkNote a b c) (g : OkNote d e f) : spec_ntMeet.f a b c d e f = some (decide (a = d ∧ b < e + f ∧ e < b + c)) := by
  unfold spec_ntMeet.f
  unfold OkNote at h g
  rw [wrap64_id (x := e + f) (by omega) (by omega), wrap64_id (x := b + c) (by omega) (by omega)]
  by_cases h1 : a = d <;> by_cases h2 : b < e + f <;> simp [h1, h2]
theorem noteEnd_eq (a b c : Int) (h : OkNote a b c) : impl_noteEnd.f a b c = some (b + c) := by
  unfold impl_noteEnd.f
  unfold OkNote at h
  rw [wrap64_id (by omega) (by omega)]

theorem nt_spec_ntGood_loop (l : List S54) (hl : l.length ≤ 1048576) : Tot (fun k => spec_ntGood.l0 k l l (l.length : Int) 0) (fun b => (b = true) ↔ ((∀ j : Int, 0 ≤ j → j < (l.length : Int) → ntC l j) ∧ (l.length : Int) ≤ 30)) := by
  refine trec (σ := Int) (fun i k => spec_ntGood.l0 k l l (l.length : Int) i) (fun i => ((l.length : Int) - i).toNat) (fun i => 0 ≤ i ∧ i ≤ (l.length : Int) ∧ ∀ j : Int, 0 ≤ j → j < i → ntC l j)
    (fun i b => (b = true) ↔ ((∀ j : Int, i ≤ j → j < (l.length : Int) → ntC l j) ∧ (l.length : Int) ≤ 30)) ?_ 0 ⟨Int.le_refl _, by omega, fun j a b => by omega⟩
  rintro i ⟨h0, h1, hp⟩ ih
  have hno : i < (l.length : Int) → ¬ ntC l i → Tot (fun _ => some false) (fun b => (b = true) ↔ ((∀ j : Int, i ≤ j → j < (l.length : Int) → ntC l j) ∧ (l.length : Int) ≤ 30)) := fun a b => tsome (all_no a b)
  have hjT : i < (l.length : Int) → ¬ ntA l i → Tot (fun k => spec_ntGood.j1 k l i l (l.length : Int) i true (rd_T54 l i).f0 (rd_T54 l i).f1 (rd_T54 l i).f2) (fun b => (b = true) ↔ ((∀ j : Int, i ≤ j → j < (l.length : Int) → ntC l j) ∧ (l.length : Int) ≤ 30)) := by
    intro a b
    refine tstep ?_
    simp only [spec_ntGood.j1, if_true]
    exact hno a (fun h => b ⟨h.1, h.2.1⟩)
  have hjF : i < (l.length : Int) → ntA l i → Tot (fun k => spec_ntGood.j1 k l i l (l.length : Int) i false (rd_T54 l i).f0 (rd_T54 l i).f1 (rd_T54 l i).f2) (fun b => (b = true) ↔ ((∀ j : Int, i ≤ j → j < (l.length : Int) → ntC l j) ∧ (l.length : Int) ≤ 30)) := by
    intro a hA
    refine tstep ?_
    simp only [spec_ntGood.j1, Option.bind_some]
    refine tneg (by simp) (tpos h0 (tpos h1 ?_))
    have hlen : ((l.take i.toNat).length : Int) = i := by simp; omega
    rw [hlen]
    refine trec (σ := Int) (fun p k => spec_ntGood.l1 k l l (l.length : Int) i (l.take i.toNat) i p (rd_T54 l i).f0 (rd_T54 l i).f1 (rd_T54 l i).f2) (fun p => (i - p).toNat) (fun p => 0 ≤ p ∧ p ≤ i ∧ ∀ q : Int, 0 ≤ q → q < p → ¬ ntMeet (rd_T54 l q) (rd_T54 l i))
      (fun _ => (fun b => (b = true) ↔ ((∀ j : Int, i ≤ j → j < (l.length : Int) → ntC l j) ∧ (l.length : Int) ≤ 30))) ?_ 0 ⟨Int.le_refl _, h0, fun q a b => by omega⟩
    rintro p ⟨p0, p1, pq⟩ ihp
    simp only [spec_ntGood.l1, hlen, wrap64_id (show -9223372036854775808 ≤ i + 1 by omega) (by omega), wrap64_id (show -9223372036854775808 ≤ p + 1 by omega) (by omega)]
    refine tite (fun c => ?_) (fun c => ?_)
    · refine tpos p0 (tpos c ?_)
      simp only [nt_take l i p p0 c]
      have hs := nt_start l i hp hA.2 p p0 c
      have o1 := (hp p p0 c).1
      have o2 := hA.1
      simp only [ntMeet_eq _ _ _ _ _ _ o2 o1, Option.bind_some, decide_eq_true_eq]
      unfold OkNote at o1 o2
      have go : ¬ ntMeet (rd_T54 l p) (rd_T54 l i) → Tot (fun k => spec_ntGood.l1 k l l (l.length : Int) i (l.take i.toNat) i (p + 1) (rd_T54 l i).f0 (rd_T54 l i).f1 (rd_T54 l i).f2) (fun b => (b = true) ↔ ((∀ j : Int, i ≤ j → j < (l.length : Int) → ntC l j) ∧ (l.length : Int) ≤ 30)) := fun hm =>
        ihp (p + 1) ⟨by omega, by omega, fun q q0 q1 => by
          by_cases e : q = p
          · rw [e]; exact hm
          · exact pq q q0 (by omega)⟩ (by (try dsimp only); omega)
      repeat' (refine tite (fun _ => ?_) (fun _ => ?_))
      all_goals first
        | exact go (by unfold ntMeet; omega)
        | exact hno a (fun h => h.2.2 p p0 c (by unfold ntMeet; omega))
    · have Ci : ntC l i := ⟨hA.1, hA.2, fun q q0 q1 => pq q q0 (by omega)⟩
      exact tmono (ih (i + 1) ⟨by omega, by omega, fun j j0 j1 => by
        by_cases e : j = i
        · rw [e]; exact Ci
        · exact hp j j0 (by omega)⟩ (by (try dsimp only); omega)) (fun b hb => all_go a Ci hb)
  simp only [spec_ntGood.l0, ntNote_eq, ntBefore_eq, Option.bind_some, decide_eq_true_eq]
  simp only [show wrap64 (i - 1) = i - 1 from wrap64_id (by omega) (by omega)]
  by_cases hL : ntLess (rd_T54 l (i - 1)) (rd_T54 l i)
  all_goals
    have hL2 := hL
    unfold ntLess at hL2
    simp only [hL2, decide_true, decide_false, Bool.not_true, Bool.not_false]
    repeat' (refine tite (fun _ => ?_) (fun _ => ?_))
    all_goals first
      | (exfalso; omega)
      | exact hjF (by omega) ⟨by assumption, fun _ => hL⟩
      | exact hjF (by omega) ⟨by assumption, fun h => absurd h (by omega)⟩
      | exact hjT (by omega) (fun h => absurd h.1 (by assumption))
      | exact hjT (by omega) (fun h => absurd (h.2 (by omega)) hL)
      | exact tsome (all_end (by omega) (by simp only [decide_eq_true_eq]))

theorem nt_impl_IsScore_loop (l : List S54) (hl : l.length ≤ 1048576) : Tot (fun k => impl_IsScore.l0 k l l (l.length : Int) 0) (fun b => (b = true) ↔ ((∀ j : Int, 0 ≤ j → j < (l.length : Int) → ntC l j) ∧ True)) := by
  refine trec (σ := Int) (fun i k => impl_IsScore.l0 k l l (l.length : Int) i) (fun i => ((l.length : Int) - i).toNat) (fun i => 0 ≤ i ∧ i ≤ (l.length : Int) ∧ ∀ j : Int, 0 ≤ j → j < i → ntC l j)
    (fun i b => (b = true) ↔ ((∀ j : Int, i ≤ j → j < (l.length : Int) → ntC l j) ∧ True)) ?_ 0 ⟨Int.le_refl _, by omega, fun j a b => by omega⟩
  rintro i ⟨h0, h1, hp⟩ ih
  have hno : i < (l.length : Int) → ¬ ntC l i → Tot (fun _ => some false) (fun b => (b = true) ↔ ((∀ j : Int, i ≤ j → j < (l.length : Int) → ntC l j) ∧ True)) := fun a b => tsome (all_no a b)
  have hjT : i < (l.length : Int) → ¬ ntA l i → Tot (fun k => impl_IsScore.j1 k l i l (l.length : Int) i true (rd_T54 l i).f0 (rd_T54 l i).f1 (rd_T54 l i).f2) (fun b => (b = true) ↔ ((∀ j : Int, i ≤ j → j < (l.length : Int) → ntC l j) ∧ True)) := by
    intro a b
    refine tstep ?_
    simp only [impl_IsScore.j1, if_true]
    exact hno a (fun h => b ⟨h.1, h.2.1⟩)
  have hjF : i < (l.length : Int) → ntA l i → Tot (fun k => impl_IsScore.j1 k l i l (l.length : Int) i false (rd_T54 l i).f0 (rd_T54 l i).f1 (rd_T54 l i).f2) (fun b => (b = true) ↔ ((∀ j : Int, i ≤ j → j < (l.length : Int) → ntC l j) ∧ True)) := by
    intro a hA
    refine tstep ?_
    simp only [impl_IsScore.j1, Option.bind_some]
    refine tneg (by simp) (tpos h0 (tpos h1 ?_))
    have hlen : ((l.take i.toNat).length : Int) = i := by simp; omega
    rw [hlen]
    refine trec (σ := Int) (fun p k => impl_IsScore.l1 k l l (l.length : Int) i (l.take i.toNat) i p (rd_T54 l i).f0 (rd_T54 l i).f1 (rd_T54 l i).f2) (fun p => (i - p).toNat) (fun p => 0 ≤ p ∧ p ≤ i ∧ ∀ q : Int, 0 ≤ q → q < p → ¬ ntMeet (rd_T54 l q) (rd_T54 l i))
      (fun _ => (fun b => (b = true) ↔ ((∀ j : Int, i ≤ j → j < (l.length : Int) → ntC l j) ∧ True))) ?_ 0 ⟨Int.le_refl _, h0, fun q a b => by omega⟩
    rintro p ⟨p0, p1, pq⟩ ihp
    simp only [impl_IsScore.l1, hlen, wrap64_id (show -9223372036854775808 ≤ i + 1 by omega) (by omega), wrap64_id (show -9223372036854775808 ≤ p + 1 by omega) (by omega)]
    refine tite (fun c => ?_) (fun c => ?_)
    · refine tpos p0 (tpos c ?_)
      simp only [nt_take l i p p0 c]
      have hs := nt_start l i hp hA.2 p p0 c
      have o1 := (hp p p0 c).1
      have o2 := hA.1
      simp only [noteEnd_eq _ _ _ o1, Option.bind_some]
      unfold OkNote at o1 o2
      have go : ¬ ntMeet (rd_T54 l p) (rd_T54 l i) → Tot (fun k => impl_IsScore.l1 k l l (l.length : Int) i (l.take i.toNat) i (p + 1) (rd_T54 l i).f0 (rd_T54 l i).f1 (rd_T54 l i).f2) (fun b => (b = true) ↔ ((∀ j : Int, i ≤ j → j < (l.length : Int) → ntC l j) ∧ True)) := fun hm =>
        ihp (p + 1) ⟨by omega, by omega, fun q q0 q1 => by
          by_cases e : q = p
          · rw [e]; exact hm
          · exact pq q q0 (by omega)⟩ (by (try dsimp only); omega)
      repeat' (refine tite (fun _ => ?_) (fun _ => ?_))
      all_goals first
        | exact go (by unfold ntMeet; omega)
        | exact hno a (fun h => h.2.2 p p0 c (by unfold ntMeet; omega))
    · have Ci : ntC l i := ⟨hA.1, hA.2, fun q q0 q1 => pq q q0 (by omega)⟩
      exact tmono (ih (i + 1) ⟨by omega, by omega, fun j j0 j1 => by
        by_cases e : j = i
        · rw [e]; exact Ci
        · exact hp j j0 (by omega)⟩ (by (try dsimp only); omega)) (fun b hb => all_go a Ci hb)
  simp only [impl_IsScore.l0, implIsNote_eq, noteLess_eq, Option.bind_some, decide_eq_true_eq]
  simp only [show wrap64 (i - 1) = i - 1 from wrap64_id (by omega) (by omega)]
  by_cases hL : ntLess (rd_T54 l (i - 1)) (rd_T54 l i)
  all_goals
    have hL2 := hL
    unfold ntLess at hL2
    simp only [hL2, decide_true, decide_false, Bool.not_true, Bool.not_false]
    repeat' (refine tite (fun _ => ?_) (fun _ => ?_))
    all_goals first
      | (exfalso; omega)
      | exact hjF (by omega) ⟨by assumption, fun _ => hL⟩
      | exact hjF (by omega) ⟨by assumption, fun h => absurd h (by omega)⟩
      | exact hjT (by omega) (fun h => absurd h.1 (by assumption))
      | exact hjT (by omega) (fun h => absurd (h.2 (by omega)) hL)
      | exact tsome (all_end (by omega) (by simp))

theorem ntGood_tot (l : List S54) (hl : l.length ≤ 1048576) : Tot (fun k => spec_ntGood.f k l) (fun b => (b = true) ↔ ntGood l) := by
  unfold spec_ntGood.f
  exact nt_spec_ntGood_loop l hl
theorem isScore_tot (l : List S54) (hl : l.length ≤ 1048576) : Tot (fun k => impl_IsScore.f k l) (fun b => (b = true) ↔ ntGood l) := by
  unfold impl_IsScore.f ntGood
  refine tite (fun c => tsome ⟨(fun h => by simp at h), (fun h => by have := h.2; omega)⟩) (fun c => ?_)
  refine tmono (nt_impl_IsScore_loop l hl) (fun b hb => ?_)
  rw [hb]
  exact ⟨fun h => ⟨h.1, by omega⟩, fun h => ⟨h.1, trivial⟩⟩

theorem rd_eq (xs : List Int) (i : Int) : rd xs i = xs.getD i.toNat 0 := rfl

theorem ntPitch_eq (a : Int) : spec_ntPitch.f a = some (decide (24 ≤ a ∧ a ≤ 96)) := by
  unfold spec_ntPitch.f
  simp only [l1In_eq, Option.bind_some]

def inpl {α : Type} (f : α → α) (l : List α) (i : Nat) : List α := (l.take i).map f ++ l.drop i
theorem inpl_len {α : Type} (f : α → α) (l : List α) (i : Nat) (h : i ≤ l.length) : (inpl f l i).length = l.length := by
  unfold inpl; simp; omega
theorem inpl_zero {α : Type} (f : α → α) (l : List α) : inpl f l 0 = l := by simp [inpl]
theorem inpl_end {α : Type} (f : α → α) (l : List α) : inpl f l l.length = l.map f := by simp [inpl]
theorem inpl_at {α : Type} (z : α) (f : α → α) (l : List α) (i : Nat) (h : i < l.length) : (inpl f l i).getD i z = l.getD i z := by
  unfold inpl
  have h1 : ((l.take i).map f).length = i := by simp; omega
  rw [List.getD, List.getElem?_append_right (by omega), h1, Nat.sub_self]
  simp [List.getD, h]
theorem inpl_set {α : Type} (z : α) (f : α → α) (l : List α) (i : Nat) (h : i < l.length) : (inpl f l i).set i (f (l.getD i z)) = inpl f l (i + 1) := by
  unfold inpl
  have h1 : ((l.take i).map f).length = i := by simp; omega
  rw [List.set_append_right _ _ (by omega), h1, Nat.sub_self, List.drop_eq_getElem_cons h, List.set_cons_zero, List.take_succ_eq_append_getElem h, List.map_append, List.append_assoc]
  simp [List.getD, h]
theorem take_up {α β : Type} (z : α) (f : α → β) (l : List α) (i : Nat) (h : i < l.length) : (l.take (i + 1)).map f = (l.take i).map f ++ [f (l.getD i z)] := by
  rw [List.take_succ_eq_append_getElem h, List.map_append]
  simp [List.getD, h]

theorem tlet {α β : Type} {v : α} {g : Nat → α → Option β} {Q : β → Prop} (h : Tot (fun k => g k v) Q) : Tot (fun k => (some v).bind fun y => g k y) Q := h
theorem take_drop_erase {α : Type} (l : List α) (m : Nat) : l.take m ++ l.drop (m + 1) = l.eraseIdx m := (List.eraseIdx_eq_take_drop_succ l m).symm
theorem wrapN1 (m : Nat) (h : m ≤ 1048576) : wrap64 ((m : Int) + 1) = ((m + 1 : Nat) : Int) := by rw [wrap64_id (by omega) (by omega)]; rfl
theorem erase_len {α : Type} (l : List α) (m : Nat) (h : l.length ≤ 1048576) : (l.eraseIdx m).length ≤ 1048576 := Nat.le_trans (List.length_eraseIdx_le l m) h

theorem tmonoEv {α : Type} {g : Nat → Option α} {r : α} (hg : ∀ k, LeO (g k) (g (k + 1))) {k : Nat} (h : g k = some r) : Tot g (fun y => y = r) := ⟨r, Ev.of hg h, rfl⟩
def decText (n : Nat) : ByteArray := ⟨(Lib.decDigits n).toArray⟩
theorem decText_small (u : Nat) (h : u < 10) : decText u = strOfNums ([(wrap64 (48 + (u : Int))) % 256] : List Int) := by
  unfold decText Lib.decDigits strOfNums
  rw [dif_pos h]
  have e : (wrap64 (48 + (u : Int))) % 256 = ((48 + u : Nat) : Int) := by unfold wrap64; omega
  rw [e]
  rfl
theorem decText_big (u : Nat) (h : ¬ u < 10) (h2 : u < 1000000000) : decText u = decText (u / 10) ++ strOfNums ([(wrap64 (48 + ((u % 10 : Nat) : Int))) % 256] : List Int) := by
  have e : (wrap64 (48 + ((u % 10 : Nat) : Int))) % 256 = ((48 + u % 10 : Nat) : Int) := by unfold wrap64; omega
  rw [e]
  have e1 : Lib.decDigits u = Lib.decDigits (u / 10) ++ [UInt8.ofNat (48 + u % 10)] := by
    conv => lhs; unfold Lib.decDigits
    rw [dif_neg h]
  unfold decText strOfNums
  rw [e1]
  apply ByteArray.ext
  simp
  rw [show (48 + (u : Int) % 10).toNat = 48 + u % 10 by omega, UInt8.ofNat_add]
  rfl
theorem decText_size (u : Nat) (h : u < 1000000000) : (decText u).size ≤ 9 ∧ 1 ≤ (decText u).size := by
  have key : ∀ (d u : Nat), u < 10 ^ (d + 1) → d ≤ 8 → (decText u).size ≤ d + 1 ∧ 1 ≤ (decText u).size := by
    intro d
    induction d with
    | zero => intro u hu _; rw [decText_small u (by omega)]; exact ⟨Nat.le_refl _, Nat.le_refl _⟩
    | succ d ih =>
      intro u hu hd
      by_cases h10 : u < 10
      · rw [decText_small u h10]
        exact ⟨by show 1 ≤ _; omega, Nat.le_refl _⟩
      · have hlt : u < 1000000000 := Nat.lt_of_lt_of_le hu (Nat.pow_le_pow_right (by omega) (show d + 1 + 1 ≤ 9 by omega))
        rw [decText_big u h10 hlt, ByteArray.size_append]
        have h1 := ih (u / 10) (by rw [Nat.pow_succ] at hu; omega) (by omega)
        have h2 : (strOfNums ([(wrap64 (48 + ((u % 10 : Nat) : Int))) % 256] : List Int)).size = 1 := rfl
        omega
  exact key 8 u (by omega) (by omega)
theorem l1Num_tot (u : Nat) (h : u < 1000000000) : Tot (fun k => spec_l1Num.f k (u : Int)) (fun r => r = decText u) := by
  induction u using Nat.strongRecOn with
  | ind u ih =>
    refine tstep ?_
    simp only [spec_l1Num.f]
    refine tite (fun c => tsome (decText_small u (by omega)).symm) (fun c => ?_)
    have e1 : wrap64 (Int.tdiv (u : Int) 10) = ((u / 10 : Nat) : Int) := by
      rw [Int.tdiv_eq_ediv_of_nonneg (by omega)]; unfold wrap64; omega
    have e2 : Int.tmod (u : Int) 10 = ((u % 10 : Nat) : Int) := by rw [Int.tmod_eq_emod_of_nonneg (by omega)]; omega
    rw [e1, e2]
    refine tbind (ih (u / 10) (by omega) (by omega)) (fun _ e => ?_); subst e
    show Tot (fun _ => if (decText (u / 10)).size + (strOfNums ([(wrap64 (48 + ((u % 10 : Nat) : Int))) % 256] : List Int)).size ≤ 9223372036854775807 then some (decText (u / 10) ++ strOfNums ([(wrap64 (48 + ((u % 10 : Nat) : Int))) % 256] : List Int)) else none) _
    have hs := (decText_size (u / 10) (by omega)).1
    have h2 : (strOfNums ([(wrap64 (48 + ((u % 10 : Nat) : Int))) % 256] : List Int)).size = 1 := rfl
    exact tpos (by omega) (tsome (decText_big u (by omega) h).symm)

def noteNames : List ByteArray := [(⟨#[99]⟩ : ByteArray), (⟨#[99, 35]⟩ : ByteArray), (⟨#[100]⟩ : ByteArray), (⟨#[100, 35]⟩ : ByteArray), (⟨#[101]⟩ : ByteArray), (⟨#[102]⟩ : ByteArray), (⟨#[102, 35]⟩ : ByteArray), (⟨#[103]⟩ : ByteArray), (⟨#[103, 35]⟩ : ByteArray), (⟨#[97]⟩ : ByteArray), (⟨#[97, 35]⟩ : ByteArray), (⟨#[98]⟩ : ByteArray)]
def pitchText (a : Int) : ByteArray := rdOf ByteArray.empty noteNames (a % 12) ++ decText (a / 12).toNat
theorem noteName_size (i : Int) (h0 : 0 ≤ i) (h1 : i < 12) : (rdOf ByteArray.empty noteNames i).size ≤ 2 ∧ 1 ≤ (rdOf ByteArray.empty noteNames i).size := by
  obtain rfl | rfl | rfl | rfl | rfl | rfl | rfl | rfl | rfl | rfl | rfl | rfl : i = 0 ∨ i = 1 ∨ i = 2 ∨ i = 3 ∨ i = 4 ∨ i = 5 ∨ i = 6 ∨ i = 7 ∨ i = 8 ∨ i = 9 ∨ i = 10 ∨ i = 11 := by omega
  all_goals decide
theorem pitchText_size (a : Int) (h0 : 24 ≤ a) (h1 : a ≤ 96) : (pitchText a).size ≤ 11 ∧ 1 ≤ (pitchText a).size := by
  unfold pitchText
  rw [ByteArray.size_append]
  have h := noteName_size (a % 12) (by omega) (by omega)
  have h2 := decText_size (a / 12).toNat (by omega)
  omega
theorem ntName_tot (a : Int) (h0 : 24 ≤ a) (h1 : a ≤ 96) : Tot (fun k => spec_ntName.f k a) (fun r => r = pitchText a) := by
  have e1 : wrap64 (Int.tdiv a 12) = (((a / 12).toNat : Nat) : Int) := by rw [Int.tdiv_eq_ediv_of_nonneg (by omega)]; unfold wrap64; omega
  have e2 : Int.tmod a 12 = a % 12 := Int.tmod_eq_emod_of_nonneg (by omega)
  unfold spec_ntName.f spec_ntNames.f
  simp only [e1, e2, Option.bind_some]
  refine tpos (by omega) (tpos (by simp; omega) ?_)
  refine tbind (l1Num_tot (a / 12).toNat (by omega)) (fun _ e => ?_); subst e
  have h := noteName_size (a % 12) (by omega) (by omega)
  have h2 := decText_size (a / 12).toNat (by omega)
  exact tpos (by unfold noteNames at h; omega) (tsome rfl)
theorem pitchName_eq (a : Int) (h0 : 24 ≤ a) (h1 : a ≤ 96) : impl_pitchName.f a = some (pitchText a) := by
  have e1 : wrap64 (Int.tdiv a 12) = (((a / 12).toNat : Nat) : Int) := by rw [Int.tdiv_eq_ediv_of_nonneg (by omega)]; unfold wrap64; omega
  have e2 : Int.tmod a 12 = a % 12 := Int.tmod_eq_emod_of_nonneg (by omega)
  unfold impl_pitchName.f itoa.f
  simp only [e1, e2, Option.bind_some]
  have h := noteName_size (a % 12) (by omega) (by omega)
  have h2 := decText_size (a / 12).toNat (by omega)
  unfold noteNames at h
  unfold decText at h2
  rw [if_pos (by omega), if_pos (by simp; omega), if_pos (by omega), if_pos (by omega)]
  simp only [Option.bind_some, Int.toNat_natCast]
  rw [if_pos (by omega)]
  rfl

theorem join_snoc (xs : List (List UInt8)) (y sep : List UInt8) (h : xs ≠ []) : Lib.join (xs ++ [y]) sep = Lib.join xs sep ++ (sep ++ y) := by
  cases xs with
  | nil => exact absurd rfl h
  | cons x r =>
    rw [List.cons_append, Lib.join_cons, Lib.join_cons, List.append_assoc]
    congr 1
    simp [Lib.joinTail]
theorem join_eq (xs : List ByteArray) (s : ByteArray) (hx : xs.length ≤ 1048576) (he : Lib.join (xs.map (·.data.toList)) [32] = s.data.toList) (hs : s.size ≤ 140737488355328) : join.f xs (⟨#[32]⟩ : ByteArray) = some (s, xs) := by
  have e32 : ((⟨#[32]⟩ : ByteArray)).data.toList = [32] := rfl
  have hl : s.data.toList.length = s.size := by rw [Array.length_toList]; rfl
  unfold join.f
  rw [e32, he, if_pos (by omega), if_pos (by omega)]

theorem itoal_eq (a : Int) (h0 : 0 ≤ a) (h1 : a < 1000000) : itoal.f a = some (decText a.toNat) := by
  unfold itoal.f
  rw [if_pos h0, if_pos h1]
  rfl
theorem words2_tot (a b : Int) (h0 : 0 ≤ a) (h1 : a < 1000000) (h2 : 0 ≤ b) (h3 : b < 1000000) : Tot (fun k => impl_words.f k [a, b]) (fun r => r = (decText a.toNat ++ (⟨#[32]⟩ : ByteArray)) ++ decText b.toNat) := by
  have hd := (decText_size a.toNat (by omega)).1
  have hd2 := (decText_size b.toNat (by omega)).1
  have z32 : (⟨#[32]⟩ : ByteArray).size = 1 := rfl
  unfold impl_words.f
  refine tstep ?_
  simp only [impl_words.l0]
  refine tpos (by simp) (tpos (Int.le_refl _) (tpos (by simp) ?_))
  rw [show rd [a, b] 0 = a from rfl, itoal_eq a h0 h1]
  simp only [Option.bind_some]
  refine tpos (by simp) ?_
  rw [show wrap64 (0 + 1) = 1 from wrap64_id (by omega) (by omega)]
  refine tstep ?_
  simp only [impl_words.l0]
  refine tpos (by simp) (tpos (by omega) (tpos (by simp) ?_))
  rw [show rd [a, b] 1 = b from rfl, itoal_eq b h2 h3]
  simp only [Option.bind_some]
  refine tpos (by simp) ?_
  rw [show wrap64 (1 + 1) = 2 from wrap64_id (by omega) (by omega)]
  refine tstep ?_
  simp only [impl_words.l0]
  refine tneg (by simp) ?_
  rw [List.nil_append, join_eq ([decText a.toNat] ++ [decText b.toNat]) ((decText a.toNat ++ (⟨#[32]⟩ : ByteArray)) ++ decText b.toNat) (by simp) (by
    rw [List.map_append, List.map_cons, List.map_nil, List.map_cons, List.map_nil, join_snoc _ _ _ (by simp), Lib.join_one]
    simp) (by simp only [ByteArray.size_append, z32]; omega)]
  exact tsome rfl

def noteText (x : S54) : ByteArray := ((((pitchText x.f0 ++ (⟨#[32]⟩ : ByteArray)) ++ decText x.f1.toNat) ++ (⟨#[32]⟩ : ByteArray)) ++ decText x.f2.toNat) ++ (⟨#[10]⟩ : ByteArray)
def scUpto (l : List S54) : Nat → ByteArray
  | 0 => ⟨#[]⟩
  | i + 1 => scUpto l i ++ noteText (rd_T54 l i)
theorem noteText_size (l : List S54) (hg : ntGood l) (i : Nat) (h : i < l.length) : (noteText (rd_T54 l i)).size ≤ 40 := by
  have o := (hg.1 i (by omega) (by omega)).1
  unfold OkNote at o
  have n1 := (pitchText_size (rd_T54 l i).f0 (by omega) (by omega)).1
  have n2 := (decText_size (rd_T54 l i).f1.toNat (by omega)).1
  have n3 := (decText_size (rd_T54 l i).f2.toNat (by omega)).1
  have z32 : (⟨#[32]⟩ : ByteArray).size = 1 := rfl
  have z10 : (⟨#[10]⟩ : ByteArray).size = 1 := rfl
  unfold noteText
  simp only [ByteArray.size_append, z32, z10]
  omega
theorem scUpto_size (l : List S54) (hg : ntGood l) (i : Nat) (h : i ≤ l.length) : (scUpto l i).size ≤ 40 * i := by
  induction i with
  | zero => exact Nat.le_refl _
  | succ i ih =>
    have h1 := ih (by omega)
    have h2 := noteText_size l hg i (by omega)
    unfold scUpto
    rw [ByteArray.size_append]
    omega
theorem ntText_tot (l : List S54) (hg : ntGood l) : Tot (fun k => spec_ntText.f k l) (fun r => r = scUpto l l.length) := by
  have hn := hg.2
  have z32 : (⟨#[32]⟩ : ByteArray).size = 1 := rfl
  have z10 : (⟨#[10]⟩ : ByteArray).size = 1 := rfl
  unfold spec_ntText.f
  refine trec (σ := Nat) (fun i k => spec_ntText.l0 k (scUpto l i) l (l.length : Int) (i : Int)) (fun i => l.length - i) (fun i => i ≤ l.length) (fun _ r => r = scUpto l l.length) ?_ 0 (Nat.zero_le _)
  intro i hi ih
  simp only [spec_ntText.l0]
  refine tite (fun c => ?_) (fun c => ?_)
  · have o := (hg.1 i (by omega) c).1
    unfold OkNote at o
    have n1 := (pitchText_size (rd_T54 l i).f0 (by omega) (by omega)).1
    have n2 := (decText_size (rd_T54 l i).f1.toNat (by omega)).1
    have n3 := (decText_size (rd_T54 l i).f2.toNat (by omega)).1
    have hs := scUpto_size l hg i hi
    have e1 : (((rd_T54 l i).f1.toNat : Nat) : Int) = (rd_T54 l i).f1 := by omega
    have e2 : (((rd_T54 l i).f2.toNat : Nat) : Int) = (rd_T54 l i).f2 := by omega
    have t1 := l1Num_tot (rd_T54 l i).f1.toNat (by omega)
    have t2 := l1Num_tot (rd_T54 l i).f2.toNat (by omega)
    rw [e1] at t1
    rw [e2] at t2
    refine tpos (by omega) (tpos c ?_)
    refine tbind (ntName_tot _ (by omega) (by omega)) (fun _ e => ?_); subst e
    refine tpos (by omega) ?_
    refine tbind t1 (fun _ e => ?_); subst e
    refine tpos (by simp only [ByteArray.size_append, z32]; omega) (tpos (by simp only [ByteArray.size_append, z32]; omega) ?_)
    refine tbind t2 (fun _ e => ?_); subst e
    refine tpos (by simp only [ByteArray.size_append, z32]; omega) (tpos (by simp only [ByteArray.size_append, z32]; omega) (tpos (by simp only [ByteArray.size_append, z32, z10]; omega) ?_))
    rw [wrap64_id (by omega) (by omega)]
    exact ih (i + 1) (by omega) (by omega)
  · obtain rfl : i = l.length := by omega
    exact tsome rfl
theorem implScoreText_tot (l : List S54) (hg : ntGood l) : Tot (fun k => impl_ScoreText.l0 k (⟨#[]⟩ : ByteArray) l (l.length : Int) 0) (fun r => r = (scUpto l l.length, true)) := by
  have hn := hg.2
  have z32 : (⟨#[32]⟩ : ByteArray).size = 1 := rfl
  have z10 : (⟨#[10]⟩ : ByteArray).size = 1 := rfl
  refine trec (σ := Nat) (fun i k => impl_ScoreText.l0 k (scUpto l i) l (l.length : Int) (i : Int)) (fun i => l.length - i) (fun i => i ≤ l.length) (fun _ r => r = (scUpto l l.length, true)) ?_ 0 (Nat.zero_le _)
  intro i hi ih
  simp only [impl_ScoreText.l0]
  refine tite (fun c => ?_) (fun c => ?_)
  · have o := (hg.1 i (by omega) c).1
    unfold OkNote at o
    have n1 := (pitchText_size (rd_T54 l i).f0 (by omega) (by omega)).1
    have n2 := (decText_size (rd_T54 l i).f1.toNat (by omega)).1
    have n3 := (decText_size (rd_T54 l i).f2.toNat (by omega)).1
    have hs := scUpto_size l hg i hi
    refine tpos (by omega) (tpos c ?_)
    rw [pitchName_eq _ (by omega) (by omega)]
    simp only [Option.bind_some]
    refine tpos (by omega) ?_
    refine tbind (words2_tot _ _ (by omega) (by omega) (by omega) (by omega)) (fun _ e => ?_); subst e
    refine tpos (by simp only [ByteArray.size_append, z32]; omega) (tpos (by simp only [ByteArray.size_append, z32]; omega) (tpos (by simp only [ByteArray.size_append, z32, z10]; omega) ?_))
    rw [wrap64_id (by omega) (by omega)]
    have := ih (i + 1) (by omega) (by omega)
    have e : scUpto l i ++ (((pitchText (rd_T54 l i).f0 ++ (⟨#[32]⟩ : ByteArray)) ++ ((decText (rd_T54 l i).f1.toNat ++ (⟨#[32]⟩ : ByteArray)) ++ decText (rd_T54 l i).f2.toNat)) ++ (⟨#[10]⟩ : ByteArray)) = scUpto l (i + 1) := by
      conv => rhs; unfold scUpto noteText
      simp only [ByteArray.append_assoc]
    rw [e]
    exact this
  · obtain rfl : i = l.length := by omega
    exact tsome rfl
theorem scoreText_agree (l : List S54) (hl : l.length ≤ 1048576) : ∃ r, Tot (fun k => spec_ScoreText.f k l) (fun y => y = r) ∧ Tot (fun k => impl_ScoreText.f k l) (fun y => y = r) := by
  by_cases hg : ntGood l
  · refine ⟨(scUpto l l.length, true), ?_, ?_⟩
    · unfold spec_ScoreText.f
      refine tbind (ntGood_tot l hl) (fun b h => tpos (h.2 hg) ?_)
      exact tbind (ntText_tot l hg) (fun _ e => by subst e; exact tsome rfl)
    · unfold impl_ScoreText.f
      exact tbind (isScore_tot l hl) (fun b h => tpos (h.2 hg) (implScoreText_tot l hg))
  · refine ⟨(⟨#[]⟩, false), ?_, ?_⟩
    · unfold spec_ScoreText.f
      exact tbind (ntGood_tot l hl) (fun b h => tneg (fun hb => hg (h.1 hb)) (tsome rfl))
    · unfold impl_ScoreText.f
      exact tbind (isScore_tot l hl) (fun b h => tneg (fun hb => hg (h.1 hb)) (tsome rfl))


theorem FnExactScoreText (l0 : List (S56)) (hm0 : l0.length ≤ 9223372036854775807) (hw0 : ∀ y ∈ l0, Glue.wf64 y.f0 ∧ Glue.wf64 y.f1 ∧ Glue.wf64 y.f2) : ∃ k, laws_FnExactScoreText.f k l0 = some true := by
  refine rounds ?_
  unfold laws_FnExactScoreText.f
  rw [szNoteS l0 (1048576 : Int) (by omega) (by omega) hm0]
  simp only [Option.bind_some]
  by_cases hl0 : (1048576 : Int) < (l0.length : Int)
  · simp only [if_pos hl0]; exact tpos (by omega) (tsome rfl)
  simp only [if_neg hl0]
  refine tneg (by omega) ?_
  obtain ⟨r, hS, hI⟩ := scoreText_agree (l0.map cvNote) (by simp; omega)
  repeat first
    | exact tsome rfl
    | (refine tbind hS (fun _ e => ?_); subst e)
    | (refine tbind hI (fun _ e => ?_); subst e)
    | (refine tbind (toNoteS l0 (by omega)) (fun _ e => ?_); subst e)
    | (refine tbind (eqNoteS _ (by first | omega | (dsimp only; omega) | (simp; omega) | assumption)) (fun _ e => ?_); subst e)
    | refine tpos rfl ?_
    | refine tneg (by dsimp only; omega) ?_
    | refine tneg (by omega) ?_
    | refine tneg (by simp; done) ?_
    | refine tpos (by dsimp only) ?_
    | (refine tstep ?_; simp only [laws_FnExactScoreText.j0])
end Go.Proofs.YtgeipgflhjakjaaDoor.Pure
