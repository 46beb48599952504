/- The plain side of the law FnExactSoundingAt: lists and numbers alone. -/
import Derived.Test.YtgeipgflhjakjaaPFnExactSoundingAtx7
import Derived.Test.YtgeipgflhjakjaaGlue
import Derived.Test.YtgeipgflhjakjaaTot
set_option linter.unusedVariables false
set_option linter.unusedSimpArgs false
namespace Go.Proofs.Ytgeipgflhjakjaa.Pure
open Go.RowKit Go.Proofs.Ytgeipgflhjakjaa.PFnExactSoundingAt Go.Proofs.YtgeipgflhjakjaaW.PrintWords Go.Proofs.YtgeipgflhjakjaaW.PrintMore Go.Proofs.Ytgeipgflhjakjaa.Tot

theorem l1In_eq (a b c : Int) : spec_l1In.f a b c = some (decide (b ≤ a ∧ a ≤ c)) := by
  unfold spec_l1In.f
  by_cases h : b ≤ a <;> simp [h]

def cvNote (x : S104) : S80 := ⟨x.f0, x.f1, x.f2⟩
theorem toNoteS (l : List S104) (hl : l.length ≤ 1048576) : Tot (fun k => laws_toNoteS.f k l) (fun r => r = l.map cvNote) := by
  unfold laws_toNoteS.f
  refine tpos (by omega) (tpos (by omega) ?_)
  have key := trec (σ := List S80 × Int) (fun s k => laws_toNoteS.l0 k l s.1 s.2) (fun s => ((l.length : Int) - s.2).toNat)
    (fun s => 0 ≤ s.2 ∧ s.2 ≤ (l.length : Int) ∧ s.1.length = l.length ∧ ∀ j : Int, 0 ≤ j → j < s.2 → s.1.getD j.toNat z80 = cvNote (l.getD j.toNat z104)) (fun _ r => r = l.map cvNote) ?_
  · exact key (List.replicate (l.length : Int).toNat z80, 0) ⟨Int.le_refl _, by dsimp only; omega, by simp, fun j h0 h1 => by dsimp only at h1; omega⟩
  · rintro ⟨ys, i⟩ ⟨h0, h1, h2, h3⟩ ih
    dsimp only at h0 h1 h2 h3
    simp only [laws_toNoteS.l0, laws_toNote.f, Option.bind_some]
    refine tite (fun c => ?_) (fun c => ?_)
    · refine tpos h0 (tpos (by omega) ?_)
      rw [wrap64_id (by omega) (by omega)]
      refine ih (_, i + 1) ⟨by dsimp only; omega, by dsimp only; omega, by simp [h2], ?_⟩ (by dsimp only; omega)
      intro j hj0 hj1
      dsimp only at hj1 ⊢
      by_cases e : j = i
      · subst e; rw [ld_set_self _ _ (by omega) hj0]; rfl
      · rw [ld_set_ne _ _ _ h0 hj0 (by omega)]; exact h3 j hj0 (by omega)
    · exact tsome (write_end h2 (fun j a b => h3 j a (by omega)))

theorem eqNoteS (l : List S80) (hl : l.length ≤ 1048576) : Tot (fun k => laws_eqNoteS.f k l l) (fun r => r = true) := by
  unfold laws_eqNoteS.f
  refine tpos rfl ?_
  refine trec (σ := Int) (fun i k => laws_eqNoteS.l0 k l l i) (fun i => ((l.length : Int) - i).toNat) (fun i => 0 ≤ i ∧ i ≤ (l.length : Int)) (fun _ r => r = true) ?_ 0 ⟨Int.le_refl _, by omega⟩
  rintro i ⟨h0, h1⟩ ih
  simp only [laws_eqNoteS.l0, laws_eqNote.f, if_true, Option.bind_some]
  refine tite (fun c => ?_) (fun c => tsome rfl)
  refine tpos h0 (tpos (by omega) ?_)
  rw [wrap64_id (by omega) (by omega)]
  exact ih (i + 1) ⟨by omega, by omega⟩ (by (try dsimp only); omega)

theorem szNoteS (l : List S104) (n : Int) (hn : 0 ≤ n) (hn2 : n ≤ 1048576) (hl : l.length ≤ 9223372036854775807) : laws_szNoteS.f l n = some (if n < l.length then -1 else n - l.length) := by
  unfold laws_szNoteS.f
  simp (disch := omega) only [wrap64_id]
  by_cases h : n < l.length
  · rw [if_pos (by omega), if_pos h]
  · rw [if_neg (by omega), if_neg h]

abbrev OkNote (a b c : Int) : Prop := 24 ≤ a ∧ a ≤ 96 ∧ 0 ≤ b ∧ b ≤ 999 ∧ 1 ≤ c ∧ c ≤ 99
theorem ntNote_eq (a b c : Int) : spec_ntNote.f a b c = some (decide (OkNote a b c)) := by
  unfold spec_ntNote.f spec_ntPitch.f OkNote
  simp only [l1In_eq, Option.bind_some, decide_eq_true_eq]
  split
  · split
    · congr 1; rw [Bool.eq_iff_iff]; simp only [decide_eq_true_eq]; omega
    · congr 1; rw [Bool.eq_iff_iff]; simp only [decide_eq_true_eq]; simp; omega
  · congr 1; rw [Bool.eq_iff_iff]; simp only [decide_eq_true_eq]; simp; omega
theorem implIsNote_eq (a b c : Int) : impl_IsNote.f a b c = some (decide (OkNote a b c)) := by
  unfold impl_IsNote.f OkNote
  by_cases h1 : 24 ≤ a <;> by_cases h2 : a ≤ 96 <;> by_cases h3 : 0 ≤ b <;> by_cases h4 : b ≤ 999 <;> by_cases h5 : 1 ≤ c <;> simp [h1, h2, h3, h4, h5] <;> omega

def ntLess (x y : S80) : Prop := x.f1 < y.f1 ∨ (x.f1 = y.f1 ∧ x.f0 < y.f0)
def ntMeet (x y : S80) : Prop := x.f0 = y.f0 ∧ y.f1 < x.f1 + x.f2
def ntA (l : List S80) (j : Int) : Prop := OkNote (rd_T80 l j).f0 (rd_T80 l j).f1 (rd_T80 l j).f2 ∧ (0 < j → ntLess (rd_T80 l (j - 1)) (rd_T80 l j))
def ntC (l : List S80) (j : Int) : Prop := OkNote (rd_T80 l j).f0 (rd_T80 l j).f1 (rd_T80 l j).f2 ∧ (0 < j → ntLess (rd_T80 l (j - 1)) (rd_T80 l j)) ∧ (∀ p : Int, 0 ≤ p → p < j → ¬ ntMeet (rd_T80 l p) (rd_T80 l j))
theorem nt_take (l : List S80) (i p : Int) (h0 : 0 ≤ p) (h : p < i) : rd_T80 (l.take i.toNat) p = rd_T80 l p := by
  unfold rd_T80
  exact ld_take i.toNat p h0 (by omega)
theorem nt_start (l : List S80) (i : Int) (hp : ∀ j : Int, 0 ≤ j → j < i → ntC l j) (hi : 0 < i → ntLess (rd_T80 l (i - 1)) (rd_T80 l i)) (p : Int) (p0 : 0 ≤ p) (p1 : p < i) : (rd_T80 l p).f1 ≤ (rd_T80 l i).f1 := by
  have key : ∀ (d : Nat) (j : Int), j = p + d → j ≤ i → (rd_T80 l p).f1 ≤ (rd_T80 l j).f1 := by
    intro d
    induction d with
    | zero => intro j e _; rw [show j = p by omega]; exact Int.le_refl _
    | succ d ih =>
      intro j e h
      have h1 := ih (j - 1) (by omega) (by omega)
      have h2 : ntLess (rd_T80 l (j - 1)) (rd_T80 l j) := by
        by_cases e2 : j = i
        · rw [e2]; exact hi (by omega)
        · exact (hp j (by omega) (by omega)).2.1 (by omega)
      unfold ntLess at h2
      omega
  exact key (i - p).toNat i (by omega) (Int.le_refl _)

def ntGood (l : List S80) : Prop := (∀ j : Int, 0 ≤ j → j < (l.length : Int) → ntC l j) ∧ (l.length : Int) ≤ 30
theorem ntBefore_eq (a b c d e f : Int) : spec_ntBefore.f a b c d e f = some (decide (b < e ∨ (b = e ∧ a < d))) := by
  unfold spec_ntBefore.f
  by_cases h1 : b < e <;> by_cases h2 : b = e <;> simp [h1, h2]
theorem noteLess_eq (a b c d e f : Int) : impl_noteLess.f a b c d e f = some (decide (b < e ∨ (b = e ∧ a < d))) := by
  unfold impl_noteLess.f
  by_cases h2 : b = e
  · subst h2; simp
  · simp [h2]
theorem ntMeet_eq (a b c d e f : Int) (h : OkNote a b c) (g : OkNote d e f) : spec_ntMeet.f a b c d e f = some (decide (a = d ∧ b < e + f ∧ e < b + c)) := by
  unfold spec_ntMeet.f
  unfold OkNote at h g
  rw [wrap64_id (x := e + f) (by omega) (by omega), wrap64_id (x := b + c) (by omega) (by omega)]
  by_cases h1 : a = d <;> by_cases h2 : b < e + f <;> simp [h1, h2]
theorem noteEnd_eq (a b c : Int) (h : OkNote a b c) : impl_noteEnd.f a b c = some (b + c) := by
  unfold impl_noteEnd.f
  unfold OkNote at h
  rw [wrap64_id (by omega) (by omega)]

theorem nt_spec_ntGood_loop (l : List S80) (hl : l.length ≤ 1048576) : Tot (fun k => spec_ntGood.l0 k l l (l.length : Int) 0) (fun b => (b = true) ↔ ((∀ j : Int, 0 ≤ j → j < (l.length : Int) → ntC l j) ∧ (l.length : Int) ≤ 30)) := by
  refine trec (σ := Int) (fun i k => spec_ntGood.l0 k l l (l.length : Int) i) (fun i => ((l.length : Int) - i).toNat) (fun i => 0 ≤ i ∧ i ≤ (l.length : Int) ∧ ∀ j : Int, 0 ≤ j → j < i → ntC l j)
    (fun i b => (b = true) ↔ ((∀ j : Int, i ≤ j → j < (l.length : Int) → ntC l j) ∧ (l.length : Int) ≤ 30)) ?_ 0 ⟨Int.le_refl _, by omega, fun j a b => by omega⟩
  rintro i ⟨h0, h1, hp⟩ ih
  have hno : i < (l.length : Int) → ¬ ntC l i → Tot (fun _ => some false) (fun b => (b = true) ↔ ((∀ j : Int, i ≤ j → j < (l.length : Int) → ntC l j) ∧ (l.length : Int) ≤ 30)) := fun a b => tsome (all_no a b)
  have hjT : i < (l.length : Int) → ¬ ntA l i → Tot (fun k => spec_ntGood.j1 k l i l (l.length : Int) i true (rd_T80 l i).f0 (rd_T80 l i).f1 (rd_T80 l i).f2) (fun b => (b = true) ↔ ((∀ j : Int, i ≤ j → j < (l.length : Int) → ntC l j) ∧ (l.length : Int) ≤ 30)) := by
    intro a b
    refine tstep ?_
    simp only [spec_ntGood.j1, if_true]
    exact hno a (fun h => b ⟨h.1, h.2.1⟩)
  have hjF : i < (l.length : Int) → ntA l i → Tot (fun k => spec_ntGood.j1 k l i l (l.length : Int) i false (rd_T80 l i).f0 (rd_T80 l i).f1 (rd_T80 l i).f2) (fun b => (b = true) ↔ ((∀ j : Int, i ≤ j → j < (l.length : Int) → ntC l j) ∧ (l.length : Int) ≤ 30)) := by
    intro a hA
    refine tstep ?_
    simp only [spec_ntGood.j1, Option.bind_some]
    refine tneg (by simp) (tpos h0 (tpos h1 ?_))
    have hlen : ((l.take i.toNat).length : Int) = i := by simp; omega
    rw [hlen]
    refine trec (σ := Int) (fun p k => spec_ntGood.l1 k l l (l.length : Int) i (l.take i.toNat) i p (rd_T80 l i).f0 (rd_T80 l i).f1 (rd_T80 l i).f2) (fun p => (i - p).toNat) (fun p => 0 ≤ p ∧ p ≤ i ∧ ∀ q : Int, 0 ≤ q → q < p → ¬ ntMeet (rd_T80 l q) (rd_T80 l i))
      (fun _ => (fun b => (b = true) ↔ ((∀ j : Int, i ≤ j → j < (l.length : Int) → ntC l j) ∧ (l.length : Int) ≤ 30))) ?_ 0 ⟨Int.le_refl _, h0, fun q a b => by omega⟩
    rintro p ⟨p0, p1, pq⟩ ihp
    simp only [spec_ntGood.l1, hlen, wrap64_id (show -9223372036854775808 ≤ i + 1 by omega) (by omega), wrap64_id (show -9223372036854775808 ≤ p + 1 by omega) (by omega)]
    refine tite (fun c => ?_) (fun c => ?_)
    · refine tpos p0 (tpos c ?_)
      simp only [nt_take l i p p0 c]
      have hs := nt_start l i hp hA.2 p p0 c
      have o1 := (hp p p0 c).1
      have o2 := hA.1
      simp only [ntMeet_eq _ _ _ _ _ _ o2 o1, Option.bind_some, decide_eq_true_eq]
      unfold OkNote at o1 o2
      have go : ¬ ntMeet (rd_T80 l p) (rd_T80 l i) → Tot (fun k => spec_ntGood.l1 k l l (l.length : Int) i (l.take i.toNat) i (p + 1) (rd_T80 l i).f0 (rd_T80 l i).f1 (rd_T80 l i).f2) (fun b => (b = true) ↔ ((∀ j : Int, i ≤ j → j < (l.length : Int) → ntC l j) ∧ (l.length : Int) ≤ 30)) := fun hm =>
        ihp (p + 1) ⟨by omega, by omega, fun q q0 q1 => by
          by_cases e : q = p
          · rw [e]; exact hm
          · exact pq q q0 (by omega)⟩ (by (try dsimp only); omega)
      repeat' (refine tite (fun _ => ?_) (fun _ => ?_))
      all_goals first
        | exact go (by unfold ntMeet; omega)
        | exact hno a (fun h => h.2.2 p p0 c (by unfold ntMeet; omega))
    · have Ci : ntC l i := ⟨hA.1, hA.2, fun q q0 q1 => pq q q0 (by omega)⟩
      exact tmono (ih (i + 1) ⟨by omega, by omega, fun j j0 j1 => by
        by_cases e : j = i
        · rw [e]; exact Ci
        · exact hp j j0 (by omega)⟩ (by (try dsimp only); omega)) (fun b hb => all_go a Ci hb)
  simp only [spec_ntGood.l0, ntNote_eq, ntBefore_eq, Option.bind_some, decide_eq_true_eq]
  simp only [show wrap64 (i - 1) = i - 1 from wrap64_id (by omega) (by omega)]
  by_cases hL : ntLess (rd_T80 l (i - 1)) (rd_T80 l i)
  all_goals
    have hL2 := hL
    unfold ntLess at hL2
    simp only [hL2, decide_true, decide_false, Bool.not_true, Bool.not_false]
    repeat' (refine tite (fun _ => ?_) (fun _ => ?_))
    all_goals first
      | (exfalso; omega)
      | exact hjF (by omega) ⟨by assumption, fun _ => hL⟩
      | exact hjF (by omega) ⟨by assumption, fun h => absurd h (by omega)⟩
      | exact hjT (by omega) (fun h => absurd h.1 (by assumption))
      | exact hjT (by omega) (fun h => absurd (h.2 (by omega)) hL)
      | exact tsome (all_end (by omega) (by simp only [decide_eq_true_eq]))

theorem nt_impl_IsScore_loop (l : List S80) (hl : l.length ≤ 1048576) : Tot (fun k => impl_IsScore.l0 k l l (l.length : Int) 0) (fun b => (b = true) ↔ ((∀ j : Int, 0 ≤ j → j < (l.length : Int) → ntC l j) ∧ True)) := by
  refine trec (σ := Int) (fun i k => impl_IsScore.l0 k l l (l.length : Int) i) (fun i => ((l.length : Int) - i).toNat) (fun i => 0 ≤ i ∧ i ≤ (l.length : Int) ∧ ∀ j : Int, 0 ≤ j → j < i → ntC l j)
    (fun i b => (b = true) ↔ ((∀ j : Int, i ≤ j → j < (l.length : Int) → ntC l j) ∧ True)) ?_ 0 ⟨Int.le_refl _, by omega, fun j a b => by omega⟩
  rintro i ⟨h0, h1, hp⟩ ih
  have hno : i < (l.length : Int) → ¬ ntC l i → Tot (fun _ => some false) (fun b => (b = true) ↔ ((∀ j : Int, i ≤ j → j < (l.length : Int) → ntC l j) ∧ True)) := fun a b => tsome (all_no a b)
  have hjT : i < (l.length : Int) → ¬ ntA l i → Tot (fun k => impl_IsScore.j1 k l i l (l.length : Int) i true (rd_T80 l i).f0 (rd_T80 l i).f1 (rd_T80 l i).f2) (fun b => (b = true) ↔ ((∀ j : Int, i ≤ j → j < (l.length : Int) → ntC l j) ∧ True)) := by
    intro a b
    refine tstep ?_
    simp only [impl_IsScore.j1, if_true]
    exact hno a (fun h => b ⟨h.1, h.2.1⟩)
  have hjF : i < (l.length : Int) → ntA l i → Tot (fun k => impl_IsScore.j1 k l i l (l.length : Int) i false (rd_T80 l i).f0 (rd_T80 l i).f1 (rd_T80 l i).f2) (fun b => (b = true) ↔ ((∀ j : Int, i ≤ j → j < (l.length : Int) → ntC l j) ∧ True)) := by
    intro a hA
    refine tstep ?_
    simp only [impl_IsScore.j1, Option.bind_some]
    refine tneg (by simp) (tpos h0 (tpos h1 ?_))
    have hlen : ((l.take i.toNat).length : Int) = i := by simp; omega
    rw [hlen]
    refine trec (σ := Int) (fun p k => impl_IsScore.l1 k l l (l.length : Int) i (l.take i.toNat) i p (rd_T80 l i).f0 (rd_T80 l i).f1 (rd_T80 l i).f2) (fun p => (i - p).toNat) (fun p => 0 ≤ p ∧ p ≤ i ∧ ∀ q : Int, 0 ≤ q → q < p → ¬ ntMeet (rd_T80 l q) (rd_T80 l i))
      (fun _ => (fun b => (b = true) ↔ ((∀ j : Int, i ≤ j → j < (l.length : Int) → ntC l j) ∧ True))) ?_ 0 ⟨Int.le_refl _, h0, fun q a b => by omega⟩
    rintro p ⟨p0, p1, pq⟩ ihp
    simp only [impl_IsScore.l1, hlen, wrap64_id (show -9223372036854775808 ≤ i + 1 by omega) (by omega), wrap64_id (show -9223372036854775808 ≤ p + 1 by omega) (by omega)]
    refine tite (fun c => ?_) (fun c => ?_)
    · refine tpos p0 (tpos c ?_)
      simp only [nt_take l i p p0 c]
      have hs := nt_start l i hp hA.2 p p0 c
      have o1 := (hp p p0 c).1
      have o2 := hA.1
      simp only [noteEnd_eq _ _ _ o1, Option.bind_some]
      unfold OkNote at o1 o2
      have go : ¬ ntMeet (rd_T80 l p) (rd_T80 l i) → Tot (fun k => impl_IsScore.l1 k l l (l.length : Int) i (l.take i.toNat) i (p + 1) (rd_T80 l i).f0 (rd_T80 l i).f1 (rd_T80 l i).f2) (fun b => (b = true) ↔ ((∀ j : Int, i ≤ j → j < (l.length : Int) → ntC l j) ∧ True)) := fun hm =>
        ihp (p + 1) ⟨by omega, by omega, fun q q0 q1 => by
          by_cases e : q = p
          · rw [e]; exact hm
          · exact pq q q0 (by omega)⟩ (by (try dsimp only); omega)
      repeat' (refine tite (fun _ => ?_) (fun _ => ?_))
      all_goals first
        | exact go (by unfold ntMeet; omega)
        | exact hno a (fun h => h.2.2 p p0 c (by unfold ntMeet; omega))
    · have Ci : ntC l i := ⟨hA.1, hA.2, fun q q0 q1 => pq q q0 (by omega)⟩
      exact tmono (ih (i + 1) ⟨by omega, by omega, fun j j0 j1 => by
        by_cases e : j = i
        · rw [e]; exact Ci
        · exact hp j j0 (by omega)⟩ (by (try dsimp only); omega)) (fun b hb => all_go a Ci hb)
  simp only [impl_IsScore.l0, implIsNote_eq, noteLess_eq, Option.bind_some, decide_eq_true_eq]
  simp only [show wrap64 (i - 1) = i - 1 from wrap64_id (by omega) (by omega)]
  by_cases hL : ntLess (rd_T80 l (i - 1)) (rd_T80 l i)
  all_goals
    have hL2 := hL
    unfold ntLess at hL2
    simp only [hL2, decide_true, decide_false, Bool.not_true, Bool.not_false]
    repeat' (refine tite (fun _ => ?_) (fun _ => ?_))
    all_goals first
      | (exfalso; omega)
      | exact hjF (by omega) ⟨by assumption, fun _ => hL⟩
      | exact hjF (by omega) ⟨by assumption, fun h => absurd h (by omega)⟩
      | exact hjT (by omega) (fun h => absurd h.1 (by assumption))
      | exact hjT (by omega) (fun h => absurd (h.2 (by omega)) hL)
      | exact tsome (all_end (by omega) (by simp))

theorem ntGood_tot (l : List S80) (hl : l.length ≤ 1048576) : Tot (fun k => spec_ntGood.f k l) (fun b => (b = true) ↔ ntGood l) := by
  unfold spec_ntGood.f
  exact nt_spec_ntGood_loop l hl
theorem isScore_tot (l : List S80) (hl : l.length ≤ 1048576) : Tot (fun k => impl_IsScore.f k l) (fun b => (b = true) ↔ ntGood l) := by
  unfold impl_IsScore.f ntGood
  refine tite (fun c => tsome ⟨(fun h => by simp at h), (fun h => by have := h.2; omega)⟩) (fun c => ?_)
  refine tmono (nt_impl_IsScore_loop l hl) (fun b hb => ?_)
  rw [hb]
  exact ⟨fun h => ⟨h.1, by omega⟩, fun h => ⟨h.1, trivial⟩⟩

def mkNote (j : Int) (n : Nat) : List S80 := (List.range n).map fun i : Nat => (⟨j + 3 * (i : Int) + 0, j + 3 * (i : Int) + 1, j + 3 * (i : Int) + 2⟩ : S80)
theorem mkNote_at (j : Int) (n : Nat) (i : Int) (h0 : 0 ≤ i) (h : i < n) : rd_T80 (mkNote j n) i = ⟨j + 3 * i + 0, j + 3 * i + 1, j + 3 * i + 2⟩ := by
  obtain ⟨m, rfl⟩ := Int.eq_ofNat_of_zero_le h0
  have hm : m < n := by omega
  unfold rd_T80 mkNote
  simp [List.getD, hm]
theorem markNoteS (l : List S80) (j : Int) (hl : l.length ≤ 1048576) (hj : 0 ≤ j) (hj2 : j ≤ 1125899906842624) : Tot (fun k => laws_markNoteS.f k l j) (fun r => r = (j + 3 * (l.length : Int), mkNote j l.length)) := by
  unfold laws_markNoteS.f
  have key := trec (σ := List S80 × Int) (fun s k => laws_markNoteS.l0 k s.1 (j + 3 * s.2) s.2) (fun s => ((l.length : Int) - s.2).toNat)
    (fun s => 0 ≤ s.2 ∧ s.2 ≤ (l.length : Int) ∧ s.1.length = l.length ∧ ∀ i : Int, 0 ≤ i → i < s.2 → rd_T80 s.1 i = rd_T80 (mkNote j l.length) i) (fun _ r => r = (j + 3 * (l.length : Int), mkNote j l.length)) ?_
  · have h := key (l, 0) ⟨Int.le_refl _, by dsimp only; omega, rfl, fun i h0 h1 => by dsimp only at h1; omega⟩
    simpa using h
  · rintro ⟨ys, i⟩ ⟨h0, h1, h2, h3⟩ ih
    dsimp only at h0 h1 h2 h3
    simp only [laws_markNoteS.l0, Option.bind_some]
    refine tite (fun c => ?_) (fun c => ?_)
    · refine tpos h0 ?_
      have hi : i.toNat < ys.length := by omega
      have e : ∀ x : S80, rd_T80 (ys.set i.toNat x) i = x := fun x => by
        unfold rd_T80; exact ld_set_self x i (by omega) h0
      simp only [e, List.set_set, wrap64_id (x := j + 3 * i + 1) (by omega) (by omega), wrap64_id (x := j + 3 * i + 1 + 1) (by omega) (by omega), wrap64_id (x := j + 3 * i + 1 + 1 + 1) (by omega) (by omega)]
      rw [show j + 3 * i + 1 + 1 + 1 = j + 3 * (i + 1) by omega, wrap64_id (x := i + 1) (by omega) (by omega)]
      refine ih (_, i + 1) ⟨by dsimp only; omega, by dsimp only; omega, by simp [h2], ?_⟩ (by dsimp only; omega)
      intro p p0 p1
      dsimp only at p1 ⊢
      by_cases ep : p = i
      · subst ep
        rw [e, mkNote_at j _ p p0 (by omega)]
        congr 1 <;> omega
      · unfold rd_T80
        rw [ld_set_ne _ _ _ h0 p0 (by omega)]
        exact h3 p p0 (by omega)
    · obtain rfl : i = (l.length : Int) := by omega
      refine tsome ?_
      congr 1
      refine ld_ext (z := z80) (by simp [mkNote, h2]) (fun p p0 p1 => ?_)
      exact h3 p p0 (by omega)

theorem rd_eq (xs : List Int) (i : Int) : rd xs i = xs.getD i.toNat 0 := rfl

theorem eqIntS (l : List Int) (hl : l.length ≤ 1048576) : Tot (fun k => laws_eqIntS.f k l l) (fun r => r = true) := by
  unfold laws_eqIntS.f
  refine tpos rfl ?_
  refine trec (σ := Int) (fun i k => laws_eqIntS.l0 k l l i) (fun i => ((l.length : Int) - i).toNat) (fun i => 0 ≤ i ∧ i ≤ (l.length : Int)) (fun _ r => r = true) ?_ 0 ⟨Int.le_refl _, by omega⟩
  rintro i ⟨h0, h1⟩ ih
  simp only [laws_eqIntS.l0, if_true]
  refine tite (fun c => ?_) (fun c => tsome rfl)
  refine tpos h0 (tpos (by omega) ?_)
  rw [wrap64_id (by omega) (by omega)]
  exact ih (i + 1) ⟨by omega, by omega⟩ (by (try dsimp only); omega)

def mkInts (j : Int) (n : Nat) : List Int := (List.range n).map fun i : Nat => j + (i : Int)
theorem mkInts_at (j : Int) (n : Nat) (i : Int) (h0 : 0 ≤ i) (h : i < n) : rd (mkInts j n) i = j + i := by
  obtain ⟨m, rfl⟩ := Int.eq_ofNat_of_zero_le h0
  have hm : m < n := by omega
  unfold rd mkInts
  simp [List.getD, hm]
theorem markIntS (l : List Int) (j : Int) (hl : l.length ≤ 1048576) (hj : 0 ≤ j) (hj2 : j ≤ 1125899906842624) : Tot (fun k => laws_markIntS.f k l j) (fun r => r = (j + (l.length : Int), mkInts j l.length)) := by
  unfold laws_markIntS.f
  have key := trec (σ := List Int × Int) (fun s k => laws_markIntS.l0 k s.1 (j + s.2) s.2) (fun s => ((l.length : Int) - s.2).toNat)
    (fun s => 0 ≤ s.2 ∧ s.2 ≤ (l.length : Int) ∧ s.1.length = l.length ∧ ∀ i : Int, 0 ≤ i → i < s.2 → rd s.1 i = rd (mkInts j l.length) i) (fun _ r => r = (j + (l.length : Int), mkInts j l.length)) ?_
  · have h := key (l, 0) ⟨Int.le_refl _, by dsimp only; omega, rfl, fun i h0 h1 => by dsimp only at h1; omega⟩
    simpa using h
  · rintro ⟨ys, i⟩ ⟨h0, h1, h2, h3⟩ ih
    dsimp only at h0 h1 h2 h3
    simp only [laws_markIntS.l0, Option.bind_some]
    refine tite (fun c => ?_) (fun c => ?_)
    · refine tpos h0 ?_
      rw [wrap64_id (x := j + i + 1) (by omega) (by omega), wrap64_id (x := i + 1) (by omega) (by omega), show j + i + 1 = j + (i + 1) by omega]
      refine ih (_, i + 1) ⟨by dsimp only; omega, by dsimp only; omega, by simp [h2], ?_⟩ (by dsimp only; omega)
      intro p p0 p1
      dsimp only at p1 ⊢
      by_cases ep : p = i
      · subst ep
        rw [mkInts_at j _ p p0 (by omega)]
        unfold rd; exact ld_set_self _ p (by omega) p0
      · unfold rd
        rw [ld_set_ne _ _ _ h0 p0 (by omega)]
        exact h3 p p0 (by omega)
    · obtain rfl : i = (l.length : Int) := by omega
      refine tsome ?_
      congr 1
      refine ld_ext (z := 0) (by simp [mkInts, h2]) (fun p p0 p1 => ?_)
      exact h3 p p0 (by omega)
theorem heldIntS (j : Int) (n : Nat) (hn : n ≤ 1048576) (hj : 0 ≤ j) (hj2 : j ≤ 1125899906842624) : Tot (fun k => laws_heldIntS.f k (mkInts j n) j) (fun r => r = j + (n : Int)) := by
  unfold laws_heldIntS.f
  have hlen : ((mkInts j n).length : Int) = n := by simp [mkInts]
  have key := trec (σ := Int) (fun i k => laws_heldIntS.l0 k (mkInts j n) (j + i) i) (fun i => ((n : Int) - i).toNat) (fun i => 0 ≤ i ∧ i ≤ (n : Int)) (fun _ r => r = j + (n : Int)) ?_ 0 ⟨Int.le_refl _, by omega⟩
  · simpa using key
  · rintro i ⟨h0, h1⟩ ih
    simp only [laws_heldIntS.l0, hlen]
    refine tite (fun c => ?_) (fun c => ?_)
    · refine tpos h0 ?_
      simp only [mkInts_at j n i h0 c]
      refine tpos (by first | trivial | rfl) ?_
      rw [wrap64_id (x := j + i + 1) (by omega) (by omega), wrap64_id (x := i + 1) (by omega) (by omega), show j + i + 1 = j + (i + 1) by omega]
      exact ih (i + 1) ⟨by omega, by omega⟩ (by (try dsimp only); omega)
    · exact tsome (by omega)

theorem ntPitch_eq (a : Int) : spec_ntPitch.f a = some (decide (24 ≤ a ∧ a ≤ 96)) := by
  unfold spec_ntPitch.f
  simp only [l1In_eq, Option.bind_some]

def inpl {α : Type} (f : α → α) (l : List α) (i : Nat) : List α := (l.take i).map f ++ l.drop i
theorem inpl_len {α : Type} (f : α → α) (l : List α) (i : Nat) (h : i ≤ l.length) : (inpl f l i).length = l.length := by
  unfold inpl; simp; omega
theorem inpl_zero {α : Type} (f : α → α) (l : List α) : inpl f l 0 = l := by simp [inpl]
theorem inpl_end {α : Type} (f : α → α) (l : List α) : inpl f l l.length = l.map f := by simp [inpl]
theorem inpl_at {α : Type} (z : α) (f : α → α) (l : List α) (i : Nat) (h : i < l.length) : (inpl f l i).getD i z = l.getD i z := by
  unfold inpl
  have h1 : ((l.take i).map f).length = i := by simp; omega
  rw [List.getD, List.getElem?_append_right (by omega), h1, Nat.sub_self]
  simp [List.getD, h]
theorem inpl_set {α : Type} (z : α) (f : α → α) (l : List α) (i : Nat) (h : i < l.length) : (inpl f l i).set i (f (l.getD i z)) = inpl f l (i + 1) := by
  unfold inpl
  have h1 : ((l.take i).map f).length = i := by simp; omega
  rw [List.set_append_right _ _ (by omega), h1, Nat.sub_self, List.drop_eq_getElem_cons h, List.set_cons_zero, List.take_succ_eq_append_getElem h, List.map_append, List.append_assoc]
  simp [List.getD, h]
theorem take_up {α β : Type} (z : α) (f : α → β) (l : List α) (i : Nat) (h : i < l.length) : (l.take (i + 1)).map f = (l.take i).map f ++ [f (l.getD i z)] := by
  rw [List.take_succ_eq_append_getElem h, List.map_append]
  simp [List.getD, h]

def putL (n : Int) : List Int → List Int
  | [] => [n]
  | x :: xs => if x < n then x :: putL n xs else if x = n then x :: xs else n :: x :: xs
theorem putL_len (n : Int) (l : List Int) : 1 ≤ (putL n l).length ∧ (putL n l).length ≤ l.length + 1 := by
  induction l with
  | nil => simp [putL]
  | cons x xs ih =>
    unfold putL
    split
    · simp; omega
    · split <;> simp
theorem putL_at (n : Int) (l : List Int) (i : Nat) (hi : i ≤ l.length) (h : ∀ j : Nat, j < i → rd l j < n) : putL n l = l.take i ++ putL n (l.drop i) := by
  induction i generalizing l with
  | zero => simp
  | succ i ih =>
    match l, hi with
    | x :: xs, hi =>
      have h0 := h 0 (by omega)
      have h0' : x < n := by simpa [rd, List.getD] using h0
      have hr : ∀ j : Nat, j < i → rd xs j < n := fun j hj => by
        have := h (j + 1) (by omega)
        simpa [rd, List.getD] using this
      have := ih xs (by simpa using hi) hr
      conv => lhs; unfold putL
      rw [if_pos h0', this]
      simp
theorem l1Put_tot (l : List Int) (n : Int) (hl : l.length ≤ 1048576) : Tot (fun k => spec_l1Put.f k l n) (fun r => r = putL n l) := by
  unfold spec_l1Put.f
  refine trec (σ := Nat) (fun i k => spec_l1Put.l0 k l n (i : Int)) (fun i => l.length - i) (fun i => i ≤ l.length ∧ ∀ j : Nat, j < i → rd l j < n) (fun _ r => r = putL n l) ?_ 0 ⟨Nat.zero_le _, fun j hj => by omega⟩
  rintro i ⟨hi, hp⟩ ih
  have hput := putL_at n l i hi hp
  simp only [spec_l1Put.l0, Option.bind_some, Int.toNat_natCast, List.nil_append, wrap64_id (x := (i : Int) + 1) (by omega) (by omega)]
  refine tite (fun c => ?_) (fun c => ?_)
  · have hlt : i < l.length := by omega
    have hd : l.drop i = rd l i :: l.drop (i + 1) := by
      rw [List.drop_eq_getElem_cons hlt]
      simp [rd, List.getD, hlt]
    refine tpos (by omega) ?_
    refine tite (fun c2 => ?_) (fun c2 => ?_)
    · have := ih (i + 1) ⟨by omega, fun j hj => by
        by_cases e : j = i
        · rw [e]; exact c2
        · exact hp j (by omega)⟩ (by omega)
      simpa using this
    · have e1 : putL n (l.drop i) = if rd l i = n then l.drop i else n :: l.drop i := by
        rw [hd]
        conv => lhs; unfold putL
        rw [if_neg c2]
      refine tite (fun c3 => tsome (by rw [hput, e1, if_pos c3, List.take_append_drop])) (fun c3 => ?_)
      refine tpos (by omega) (tpos (by simp; omega) (tpos (by simp; omega) (tpos (by simp; omega) (tsome ?_))))
      rw [hput, e1, if_neg c3, List.append_assoc]
      rfl
  · obtain rfl : i = l.length := by omega
    refine tpos (by omega) (tpos (by omega) (tpos (by simp; omega) (tpos (by simp; omega) (tpos (by simp; omega) (tsome ?_)))))
    rw [hput, List.append_assoc]
    simp [putL]

theorem tlet {α β : Type} {v : α} {g : Nat → α → Option β} {Q : β → Prop} (h : Tot (fun k => g k v) Q) : Tot (fun k => (some v).bind fun y => g k y) Q := h
theorem take_drop_erase {α : Type} (l : List α) (m : Nat) : l.take m ++ l.drop (m + 1) = l.eraseIdx m := (List.eraseIdx_eq_take_drop_succ l m).symm
theorem wrapN1 (m : Nat) (h : m ≤ 1048576) : wrap64 ((m : Int) + 1) = ((m + 1 : Nat) : Int) := by rw [wrap64_id (by omega) (by omega)]; rfl
theorem erase_len {α : Type} (l : List α) (m : Nat) (h : l.length ≤ 1048576) : (l.eraseIdx m).length ≤ 1048576 := Nat.le_trans (List.length_eraseIdx_le l m) h

theorem putL_perm (n : Int) (l : List Int) (h : n ∉ l) : (putL n l).Perm (n :: l) := by
  induction l with
  | nil => exact List.Perm.refl _
  | cons x xs ih =>
    unfold putL
    split
    · exact ((ih (fun hm => h (List.mem_cons_of_mem _ hm))).cons x).trans (List.Perm.swap n x xs)
    · split
      · rename_i e; exact absurd (by rw [e]; exact List.mem_cons_self) h
      · exact List.Perm.refl _
theorem mem_putL (n y : Int) (l : List Int) : y ∈ putL n l ↔ y = n ∨ y ∈ l := by
  induction l with
  | nil => simp [putL]
  | cons x xs ih =>
    unfold putL
    split
    · rw [List.mem_cons, ih, List.mem_cons]; constructor <;> (intro h; rcases h with h | h | h <;> simp [h])
    · split
      · rename_i e; rw [List.mem_cons]; constructor
        · intro h; exact .inr h
        · intro h; rcases h with h | h
          · exact .inl (by rw [h, e])
          · exact h
      · rw [List.mem_cons]
theorem putL_sorted (n : Int) (l : List Int) (h : l.Pairwise (· < ·)) : (putL n l).Pairwise (· < ·) := by
  induction l with
  | nil => simp [putL]
  | cons x xs ih =>
    rw [List.pairwise_cons] at h
    unfold putL
    split
    · rename_i c
      rw [List.pairwise_cons]
      refine ⟨fun y hy => ?_, ih h.2⟩
      rcases (mem_putL n y xs).1 hy with e | e
      · rw [e]; exact c
      · exact h.1 y e
    · split
      · exact List.pairwise_cons.2 h
      · refine List.pairwise_cons.2 ⟨fun y hy => ?_, List.pairwise_cons.2 h⟩
        rcases List.mem_cons.1 hy with e | e
        · rw [e]; omega
        · have := h.1 y e; omega
def putAll (l : List Int) : List Int := l.foldl (fun acc x => putL x acc) []
theorem putAll_append (l : List Int) (x : Int) : putAll (l ++ [x]) = putL x (putAll l) := by
  unfold putAll
  rw [List.foldl_append]
  rfl
theorem putAll_sorted (l : List Int) : (putAll l).Pairwise (· < ·) := by
  unfold putAll
  suffices h : ∀ (l acc : List Int), acc.Pairwise (· < ·) → (l.foldl (fun acc x => putL x acc) acc).Pairwise (· < ·) from h l [] List.Pairwise.nil
  intro l
  induction l with
  | nil => intro acc h; exact h
  | cons x xs ih => intro acc h; exact ih _ (putL_sorted x acc h)
theorem putAll_mem (l : List Int) (y : Int) : y ∈ putAll l ↔ y ∈ l := by
  unfold putAll
  suffices h : ∀ (l acc : List Int), y ∈ l.foldl (fun acc x => putL x acc) acc ↔ y ∈ l ∨ y ∈ acc from (h l []).trans (by simp)
  intro l
  induction l with
  | nil => intro acc; simp
  | cons x xs ih =>
    intro acc
    rw [List.foldl_cons, ih, mem_putL, List.mem_cons]
    constructor
    · rintro (h | h | h)
      · exact .inl (.inr h)
      · exact .inl (.inl h)
      · exact .inr h
    · rintro ((h | h) | h)
      · exact .inr (.inl h)
      · exact .inl h
      · exact .inr (.inr h)
theorem putAll_perm (l : List Int) (h : l.Nodup) : (putAll l).Perm l := by
  unfold putAll
  suffices hh : ∀ (l acc : List Int), (∀ x ∈ l, x ∉ acc) → l.Nodup → (l.foldl (fun acc x => putL x acc) acc).Perm (l ++ acc) from (hh l [] (fun x _ => by simp) h).trans (by rw [List.append_nil])
  intro l
  induction l with
  | nil => intro acc _ _; exact List.Perm.refl _
  | cons x xs ih =>
    intro acc ha hn
    rw [List.nodup_cons] at hn
    rw [List.foldl_cons]
    refine (ih (putL x acc) (fun y hy hm => ?_) hn.2).trans ?_
    · rcases (mem_putL x y acc).1 hm with e | e
      · exact hn.1 (e ▸ hy)
      · exact ha y (List.mem_cons_of_mem _ hy) e
    · refine ((putL_perm x acc (ha x List.mem_cons_self)).append_left xs).trans ?_
      exact List.perm_middle
theorem sorted_unique (l m : List Int) (h1 : l.Pairwise (· ≤ ·)) (h2 : m.Pairwise (· ≤ ·)) (h : l.Perm m) : l = m :=
  List.Perm.eq_of_pairwise (fun a b _ _ x y => Int.le_antisymm x y) h1 h2 h
theorem sortI_sorted (l : List Int) : (l.mergeSort fun x y => decide (x ≤ y)).Pairwise (· ≤ ·) := by
  have := List.pairwise_mergeSort (le := fun x y : Int => decide (x ≤ y)) (fun a b c => by simp only [decide_eq_true_eq]; omega) (fun a b => by simp only [Bool.or_eq_true, decide_eq_true_eq]; omega) l
  exact this.imp (fun h => by simpa using h)
theorem sortI_putAll (l : List Int) (h : l.Nodup) : (l.mergeSort fun x y => decide (x ≤ y)) = putAll l :=
  sorted_unique _ _ (sortI_sorted l) ((putAll_sorted l).imp (fun h => Int.le_of_lt h)) ((List.mergeSort_perm l _).trans (putAll_perm l h).symm)
theorem sort_Ints_eq (l : List Int) (h : l.length ≤ 1048576) : sort_Ints.f l = some (l.mergeSort fun x y => decide (x ≤ y)) := by
  unfold sort_Ints.f
  rw [if_pos (Nat.lt_of_le_of_lt h (by decide))]

def souAt (l : List S80) (s : Int) (i : Int) : Prop := (rd_T80 l i).f1 ≤ s ∧ s < (rd_T80 l i).f1 + (rd_T80 l i).f2
instance (l : List S80) (s i : Int) : Decidable (souAt l s i) := inferInstanceAs (Decidable (_ ∧ _))
def souI (l : List S80) (s : Int) : Nat → List Int
  | 0 => []
  | i + 1 => if souAt l s i then souI l s i ++ [(rd_T80 l i).f0] else souI l s i
theorem souI_len (l : List S80) (s : Int) (i : Nat) : (souI l s i).length ≤ i := by
  induction i with
  | zero => simp [souI]
  | succ i ih => unfold souI; split <;> (try rw [List.length_append, List.length_singleton]) <;> omega
theorem souI_mem (l : List S80) (s : Int) (i : Nat) (y : Int) (h : y ∈ souI l s i) : ∃ j : Nat, j < i ∧ souAt l s j ∧ (rd_T80 l j).f0 = y := by
  induction i with
  | zero => simp [souI] at h
  | succ i ih =>
    unfold souI at h
    split at h
    · rename_i c
      rcases List.mem_append.1 h with h | h
      · obtain ⟨j, a, b⟩ := ih h; exact ⟨j, by omega, b⟩
      · exact ⟨i, by omega, c, (List.mem_singleton.1 h).symm⟩
    · obtain ⟨j, a, b⟩ := ih h; exact ⟨j, by omega, b⟩
theorem souI_nodup (l : List S80) (s : Int) (hg : ntGood l) (i : Nat) (hi : i ≤ l.length) : (souI l s i).Nodup := by
  induction i with
  | zero => simp [souI]
  | succ i ih =>
    unfold souI
    split
    · rename_i c
      rw [List.nodup_append]
      refine ⟨ih (by omega), by simp, fun a ha b hb e => ?_⟩
      obtain ⟨j, hj, hs, he⟩ := souI_mem l s i a ha
      have hm := (hg.1 i (by omega) (by omega)).2.2 j (by omega) (by omega)
      unfold ntMeet at hm
      unfold souAt at c hs
      have hb' : b = (rd_T80 l i).f0 := by simpa using hb
      exact hm ⟨by rw [he, e, hb'], by omega⟩
    · exact ih (by omega)
theorem ntAt_tot (l : List S80) (hg : ntGood l) (s : Int) : Tot (fun k => spec_ntAt.f k l s) (fun r => r = putAll (souI l s l.length)) := by
  have hn := hg.2
  unfold spec_ntAt.f
  refine trec (σ := Nat) (fun i k => spec_ntAt.l0 k s (putAll (souI l s i)) l (l.length : Int) (i : Int)) (fun i => l.length - i) (fun i => i ≤ l.length) (fun _ r => r = putAll (souI l s l.length)) ?_ 0 (Nat.zero_le _)
  intro i hi ih
  simp only [spec_ntAt.l0, wrap64_id (x := (i : Int) + 1) (by omega) (by omega)]
  refine tite (fun c => ?_) (fun c => tsome (by rw [show i = l.length by omega]))
  have ho := (hg.1 i (by omega) c).1
  unfold OkNote at ho
  have hlen : (putAll (souI l s i)).length ≤ 1048576 := by
    rw [(putAll_perm _ (souI_nodup l s hg i hi)).length_eq]
    have := souI_len l s i
    omega
  refine tpos (by omega) (tpos c ?_)
  rw [wrap64_id (x := (rd_T80 l i).f1 + (rd_T80 l i).f2) (by omega) (by omega), wrap64_id (x := (rd_T80 l i).f1 + (rd_T80 l i).f2 - 1) (by omega) (by omega), l1In_eq]
  refine tlet ?_
  have next := ih (i + 1) (by omega) (by omega)
  refine tite (fun c2 => ?_) (fun c2 => ?_)
  · have c3 : souAt l s i := by have := of_decide_eq_true c2; unfold souAt; omega
    refine tbind (l1Put_tot _ _ hlen) (fun _ e => ?_); subst e
    rw [show souI l s (i + 1) = souI l s i ++ [(rd_T80 l i).f0] by conv => lhs; unfold souI; rw [if_pos c3], putAll_append] at next
    simpa using next
  · have c3 : ¬ souAt l s i := fun h => c2 (decide_eq_true (by unfold souAt at h; omega))
    rw [show souI l s (i + 1) = souI l s i by conv => lhs; unfold souI; rw [if_neg c3]] at next
    simpa using next
theorem implSou_tot (l : List S80) (hg : ntGood l) (s : Int) : Tot (fun k => impl_SoundingAt.l0 k s [] l (l.length : Int) 0) (fun r => r = (putAll (souI l s l.length), true)) := by
  have hn := hg.2
  refine trec (σ := Nat) (fun i k => impl_SoundingAt.l0 k s (souI l s i) l (l.length : Int) (i : Int)) (fun i => l.length - i) (fun i => i ≤ l.length) (fun _ r => r = (putAll (souI l s l.length), true)) ?_ 0 (Nat.zero_le _)
  intro i hi ih
  have hlen := souI_len l s i
  simp only [impl_SoundingAt.l0, wrap64_id (x := (i : Int) + 1) (by omega) (by omega)]
  refine tite (fun c => ?_) (fun c => ?_)
  · have ho := (hg.1 i (by omega) c).1
    have next := ih (i + 1) (by omega) (by omega)
    refine tpos (by omega) (tpos c ?_)
    have skip : ¬ souAt l s i → Tot (fun k => impl_SoundingAt.l0 k s (souI l s i) l (l.length : Int) ((i : Int) + 1)) (fun r => r = (putAll (souI l s l.length), true)) := fun c3 => by
      rw [show souI l s (i + 1) = souI l s i by conv => lhs; unfold souI; rw [if_neg c3]] at next
      simpa using next
    refine tite (fun c2 => ?_) (fun c2 => skip (fun h => c2 h.1))
    rw [noteEnd_eq _ _ _ ho]
    refine tlet ?_
    refine tite (fun c3 => tpos (Nat.lt_of_le_of_lt hlen (by omega)) ?_) (fun c3 => skip (fun h => c3 h.2))
    rw [show souI l s (i + 1) = souI l s i ++ [(rd_T80 l i).f0] by conv => lhs; unfold souI; rw [if_pos ⟨c2, c3⟩]] at next
    simpa using next
  · obtain rfl : i = l.length := by omega
    rw [sort_Ints_eq _ (by omega), sortI_putAll _ (souI_nodup l s hg _ (Nat.le_refl _))]
    exact tlet (tsome rfl)
theorem soundingAt_agree (l : List S80) (s : Int) (hl : l.length ≤ 1048576) : ∃ r, Tot (fun k => spec_SoundingAt.f k l s) (fun y => y = r) ∧ Tot (fun k => impl_SoundingAt.f k l s) (fun y => y = r) ∧ r.1.length ≤ 1048576 := by
  have iF : Tot (fun k => impl_SoundingAt.j0 k l s true) (fun y => y = ([], false)) := by
    refine tstep ?_
    simp only [impl_SoundingAt.j0, if_true]
    exact tsome rfl
  by_cases hg : ntGood l ∧ 0 ≤ s ∧ s ≤ 1099
  · obtain ⟨hg, hp⟩ := hg
    refine ⟨(putAll (souI l s l.length), true), ?_, ?_, ?_⟩
    · unfold spec_SoundingAt.f
      refine tbind (ntGood_tot l hl) (fun b h => tpos (h.2 hg) ?_)
      rw [l1In_eq, decide_eq_true hp]
      refine tlet (tpos rfl ?_)
      exact tbind (ntAt_tot l hg s) (fun _ e => by subst e; exact tsome rfl)
    · unfold impl_SoundingAt.f
      refine tbind (isScore_tot l hl) (fun b h => tpos (h.2 hg) (tneg (by omega) ?_))
      rw [decide_eq_false (show ¬ s > 1099 by omega)]
      refine tstep ?_
      simp only [impl_SoundingAt.j0]
      exact tneg (by simp) (implSou_tot l hg s)
    · dsimp only
      rw [(putAll_perm _ (souI_nodup l s hg _ (Nat.le_refl _))).length_eq]
      have := souI_len l s l.length
      omega
  · refine ⟨([], false), ?_, ?_, by simp⟩
    · unfold spec_SoundingAt.f
      refine tbind (ntGood_tot l hl) (fun b h => tite (fun c => ?_) (fun c => tsome rfl))
      rw [l1In_eq, decide_eq_false (fun hh => hg ⟨h.1 c, hh⟩)]
      exact tlet (tneg (by simp) (tsome rfl))
    · unfold impl_SoundingAt.f
      refine tbind (isScore_tot l hl) (fun b h => tite (fun c => tite (fun c2 => iF) (fun c2 => ?_)) (fun c => iF))
      rw [decide_eq_true (show s > 1099 from Classical.byContradiction fun hh => hg ⟨h.1 c, by omega⟩)]
      exact iF


theorem FnExactSoundingAt (l0 : List (S104)) (a1 : Int) (hm0 : l0.length ≤ 9223372036854775807) (hw0 : ∀ y ∈ l0, Glue.wf64 y.f0 ∧ Glue.wf64 y.f1 ∧ Glue.wf64 y.f2) (w1 : Glue.wf64 a1) : ∃ k, laws_FnExactSoundingAt.f k l0 a1 = some true := by
  refine rounds ?_
  unfold laws_FnExactSoundingAt.f
  rw [szNoteS l0 (1048576 : Int) (by omega) (by omega) hm0]
  simp only [Option.bind_some]
  by_cases hl0 : (1048576 : Int) < (l0.length : Int)
  · simp only [if_pos hl0]; exact tpos (by omega) (tsome rfl)
  simp only [if_neg hl0]
  refine tneg (by omega) ?_
  obtain ⟨r, hS, hI, hR⟩ := soundingAt_agree (l0.map cvNote) a1 (by simp; omega)
  repeat first
    | exact tsome rfl
    | (refine tbind hS (fun _ e => ?_); subst e)
    | (refine tbind hI (fun _ e => ?_); subst e)
    | (refine tbind (toNoteS l0 (by omega)) (fun _ e => ?_); subst e)
    | (refine tbind (eqNoteS _ (by first | omega | (dsimp only; omega) | (simp; omega) | assumption)) (fun _ e => ?_); subst e)
    | (refine tbind (eqIntS _ (by first | assumption | omega | (dsimp only; omega) | (simp; omega))) (fun _ e => ?_); subst e)
    | (refine tbind (markIntS _ 1 (by first | assumption | omega | (dsimp only; omega) | (simp; omega)) (by omega) (by omega)) (fun _ e => ?_); subst e)
    | (refine tbind (heldIntS 1 _ (by first | omega | (simp; omega)) (by omega) (by omega)) (fun _ e => ?_); subst e)
    | (refine tbind (markNoteS _ _ (by first | omega | (simp; omega)) (by omega) (by omega)) (fun _ e => ?_); subst e)
    | refine tpos rfl ?_
    | refine tneg (by dsimp only; omega) ?_
    | refine tneg (by omega) ?_
    | refine tneg (by simp; done) ?_
    | refine tpos (by dsimp only) ?_
    | (refine tstep ?_; simp only [laws_FnExactSoundingAt.j0])
    | (refine tstep ?_; simp only [laws_FnExactSoundingAt.j1])
    | (refine tstep ?_; simp only [laws_FnExactSoundingAt.j2])
end Go.Proofs.Ytgeipgflhjakjaa.Pure
