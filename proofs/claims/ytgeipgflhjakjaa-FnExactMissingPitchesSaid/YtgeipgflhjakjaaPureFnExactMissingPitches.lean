import Derived.Test.YtgeipgflhjakjaaPFnExactMissingPitchesx9
import Derived.Test.YtgeipgflhjakjaaGlue
import Derived.Test.YtgeipgflhjakjaaTot
set_option linter.unusedVariables false
set_option linter.unusedSimpArgs false
namespace Go.Proofs.Ytgeipgflhjakjaa.Pure
open Go.RowKit Go.Proofs.Ytgeipgflhjakjaa.PFnExactMissingPitches Go.Proofs.YtgeipgflhjakjaaW.PrintWords Go.Proofs.YtgeipgflhjakjaaW.PrintMore Go.Proofs.Ytgeipgflhjakjaa.Tot
theorem l1In_eq (a b c : Int) : spec_l1In.f a b c = some (decide (b ≤ a ∧ a ≤ c)) := by
  unfold spec_l1In.f
  by_cases h : b ≤ a <;> simp [h]
def cvNote (x : S104) : S80 := ⟨x.f0, x.f1, x.f2⟩
theorem toNoteS (l : List S104) (hl : l.length ≤ 1048576) : Tot (fun k => laws_toNoteS.f k l) (fun r => r = l.map cvNote) := by
  unfold laws_toNoteS.f
  refine tpos (by omega) (tpos (by omega) ?_)
  have key := trec (σ := List S80 × Int) (fun s k => laws_toNoteS.l0 k l s.1 s.2) (fun s => ((l.length : Int) - s.2).toNat)
    (fun s => 0 ≤ s.2 ∧ s.2 ≤ (l.length : Int) ∧ s.1.length = l.length ∧ ∀ j : Int, 0 ≤ j → j < s.2 → s.1.getD j.toNat z80 = cvNote (l.getD j.toNat z104)) (fun _ r => r = l.map cvNote) ?_
  · exact key (List.replicate (l.length : Int).toNat z80, 0) ⟨Int.le_refl _, by dsimp only; omega, by simp, fun j h0 h1 => by dsimp only at h1; omega⟩
  · rintro ⟨ys, i⟩ ⟨h0, h1, h2, h3⟩ ih
    dsimp only at h0 h1 h2 h3
    simp only [laws_toNoteS.l0, laws_toNote.f, Option.bind_some]
    refine tite (fun c => ?_) (fun c => ?_)
    · refine tpos h0 (tpos (by omega) ?_)
      rw [wrap64_id (by omega) (by omega)]
      refine ih (_, i + 1) ⟨by dsimp only; omega, by dsimp only; omega, by simp [h2], ?_⟩ (by dsimp only; omega)
      intro j hj0 hj1
      dsimp only at hj1 ⊢
      by_cases e : j = i
      · subst e; rw [ld_set_self _ _ (by omega) hj0]; rfl
      · rw [ld_set_ne _ _ _ h0 hj0 (by omega)]; exact h3 j hj0 (by omega)
    · exact tsome (write_end h2 (fun j a b => h3 j a (by omega)))
theorem eqNoteS (l : List S80) (hl : l.length ≤ 1048576) : Tot (fun k => laws_eqNoteS.f k l l) (fun r => r = true) := by
  unfold laws_eqNoteS.f
  refine tpos rfl ?_
  refine trec (σ := Int) (fun i k => laws_eqNoteS.l0 k l l i) (fun i => ((l.length : Int) - i).toNat) (fun i => 0 ≤ i ∧ i ≤ (l.length : Int)) (fun _ r => r = true) ?_ 0 ⟨Int.le_refl _, by omega⟩
  rintro i ⟨h0, h1⟩ ih
  simp only [laws_eqNoteS.l0, laws_eqNote.f, if_true, Option.bind_some]
  refine tite (fun c => ?_) (fun c => tsome rfl)
  refine tpos h0 (tpos (by omega) ?_)
  rw [wrap64_id (by omega) (by omega)]
  exact ih (i + 1) ⟨by omega, by omega⟩ (by (try dsimp only); omega)
theorem szNoteS (l : List S104) (n : Int) (hn : 0 ≤ n) (hn2 : n ≤ 1048576) (hl : l.length ≤ 9223372036854775807) : laws_szNoteS.f l n = some (if n < l.length then -1 else n - l.length) := by
  unfold laws_szNoteS.f
  simp (disch := omega) only [wrap64_id]
  by_cases h : n < l.length
  · rw [if_pos (by omega), if_pos h]
  · rw [if_neg (by omega), if_neg h]
abbrev OkNote (a b c : Int) : Prop := 24 ≤ a ∧ a ≤ 96 ∧ 0 ≤ b ∧ b ≤ 999 ∧ 1 ≤ c ∧ c ≤ 99
theorem ntNote_eq (a b c : Int) : spec_ntNote.f a b c = some (decide (OkNote a b c)) := by
  unfold spec_ntNote.f spec_ntPitch.f OkNote
  simp only [l1In_eq, Option.bind_some, decide_eq_true_eq]
  split
  · split
    · congr 1; rw [Bool.eq_iff_iff]; simp only [decide_eq_true_eq]; omega
    · congr 1; rw [Bool.eq_iff_iff]; simp only [decide_eq_true_eq]; simp; omega
  · congr 1; rw [Bool.eq_iff_iff]; simp only [decide_eq_true_eq]; simp; omega
theorem implIsNote_eq (a b c : Int) : impl_IsNote.f a b c = some (decide (OkNote a b c)) := by
  unfold impl_IsNote.f OkNote
  by_cases h1 : 24 ≤ a <;> by_cases h2 : a ≤ 96 <;> by_cases h3 : 0 ≤ b <;> by_cases h4 : b ≤ 999 <;> by_cases h5 : 1 ≤ c <;> simp [h1, h2, h3, h4, h5] <;> omega
def ntLess (x y : S80) : Prop := x.f1 < y.f1 ∨ (x.f1 = y.f1 ∧ x.f0 < y.f0)
def ntMeet (x y : S80) : Prop := x.f0 = y.f0 ∧ y.f1 < x.f1 + x.f2
def ntA (l : List S80) (j : Int) : Prop := OkNote (rd_T80 l j).f0 (rd_T80 l j).f1 (rd_T80 l j).f2 ∧ (0 < j → ntLess (rd_T80 l (j - 1)) (rd_T80 l j))
def ntC (l : List S80) (j : Int) : Prop := OkNote (rd_T80 l j).f0 (rd_T80 l j).f1 (rd_T80 l j).f2 ∧ (0 < j → ntLess (rd_T80 l (j - 1)) (rd_T80 l j)) ∧ (∀ p : Int, 0 ≤ p → p < j → ¬ ntMeet (rd_T80 l p) (rd_T80 l j))
theorem nt_take (l : List S80) (i p : Int) (h0 : 0 ≤ p) (h : p < i) : rd_T80 (l.take i.toNat) p = rd_T80 l p := by
  unfold rd_T80
  exact ld_take i.toNat p h0 (by omega)
theorem nt_start (l : List S80) (i : Int) (hp : ∀ j : Int, 0 ≤ j → j < i → ntC l j) (hi : 0 < i → ntLess (rd_T80 l (i - 1)) (rd_T80 l i)) (p : Int) (p0 : 0 ≤ p) (p1 : p < i) : (rd_T80 l p).f1 ≤ (rd_T80 l i).f1 := by
  have key : ∀ (d : Nat) (j : Int), j = p + d → j ≤ i → (rd_T80 l p).f1 ≤ (rd_T80 l j).f1 := by
    intro d
    induction d with
    | zero => intro j e _; rw [show j = p by omega]; exact Int.le_refl _
    | succ d ih =>
      intro j e h
      have h1 := ih (j - 1) (by omega) (by omega)
      have h2 : ntLess (rd_T80 l (j - 1)) (rd_T80 l j) := by
        by_cases e2 : j = i
        · rw [e2]; exact hi (by omega)
        · exact (hp j (by omega) (by omega)).2.1 (by omega)
      unfold ntLess at h2
      omega
  exact key (i - p).toNat i (by omega) (Int.le_refl _)
def ntGood (l : List S80) : Prop := (∀ j : Int, 0 ≤ j → j < (l.length : Int) → ntC l j) ∧ (l.length : Int) ≤ 30
theorem ntBefore_eq (a b c d e f : Int) : spec_ntBefore.f a b c d e f = some (decide (b < e ∨ (b = e ∧ a < d))) := by
  unfold spec_ntBefore.f
  by_cases h1 : b < e <;> by_cases h2 : b = e <;> simp [h1, h2]
theorem noteLess_eq (a b c d e f : Int) : impl_noteLess.f a b c d e f = some (decide (b < e ∨ (b = e ∧ a < d))) := by
  unfold impl_noteLess.f
  by_cases h2 : b = e
  · subst h2; simp
  · simp [h2]
theorem ntMeet_eq (a b c d e f : Int) (h : OkNote a b c) (g : OkNote d e f) : spec_ntMeet.f a b c d e f = some (decide (a = d ∧ b < e + f ∧ e < b + c)) := by
  unfold spec_ntMeet.f
  unfold OkNote at h g
  rw [wrap64_id (x := e + f) (by omega) (by omega), wrap64_id (x := b + c) (by omega) (by omega)]
  by_cases h1 : a = d <;> by_cases h2 : b < e + f <;> simp [h1, h2]
theorem noteEnd_eq (a b c : Int) (h : OkNote a b c) : impl_noteEnd.f a b c = some (b + c) := by
  unfold impl_noteEnd.f
  unfold OkNote at h
  rw [wrap64_id (by omega) (by omega)]
theorem nt_spec_ntGood_loop (l : List S80) (hl : l.length ≤ 1048576) : Tot (fun k => spec_ntGood.l0 k l l (l.length : Int) 0) (fun b => (b = true) ↔ ((∀ j : Int, 0 ≤ j → j < (l.length : Int) → ntC l j) ∧ (l.length : Int) ≤ 30)) := by
  refine trec (σ := Int) (fun i k => spec_ntGood.l0 k l l (l.length : Int) i) (fun i => ((l.length : Int) - i).toNat) (fun i => 0 ≤ i ∧ i ≤ (l.length : Int) ∧ ∀ j : Int, 0 ≤ j → j < i → ntC l j)
    (fun i b => (b = true) ↔ ((∀ j : Int, i ≤ j → j < (l.length : Int) → ntC l j) ∧ (l.length : Int) ≤ 30)) ?_ 0 ⟨Int.le_refl _, by omega, fun j a b => by omega⟩
  rintro i ⟨h0, h1, hp⟩ ih
  have hno : i < (l.length : Int) → ¬ ntC l i → Tot (fun _ => some false) (fun b => (b = true) ↔ ((∀ j : Int, i ≤ j → j < (l.length : Int) → ntC l j) ∧ (l.length : Int) ≤ 30)) := fun a b => tsome (all_no a b)
  have hjT : i < (l.length : Int) → ¬ ntA l i → Tot (fun k => spec_ntGood.j1 k l i l (l.length : Int) i true (rd_T80 l i).f0 (rd_T80 l i).f1 (rd_T80 l i).f2) (fun b => (b = true) ↔ ((∀ j : Int, i ≤ j → j < (l.length : Int) → ntC l j) ∧ (l.length : Int) ≤ 30)) := by
    intro a b
    refine tstep ?_
    simp only [spec_ntGood.j1, if_true]
    exact hno a (fun h => b ⟨h.1, h.2.1⟩)
  have hjF : i < (l.length : Int) → ntA l i → Tot (fun k => spec_ntGood.j1 k l i l (l.length : Int) i false (rd_T80 l i).f0 (rd_T80 l i).f1 (rd_T80 l i).f2) (fun b => (b = true) ↔ ((∀ j : Int, i ≤ j → j < (l.length : Int) → ntC l j) ∧ (l.length : Int) ≤ 30)) := by
    intro a hA
    refine tstep ?_
    simp only [spec_ntGood.j1, Option.bind_some]
    refine tneg (by simp) (tpos h0 (tpos h1 ?_))
    have hlen : ((l.take i.toNat).length : Int) = i := by simp; omega
    rw [hlen]
    refine trec (σ := Int) (fun p k => spec_ntGood.l1 k l l (l.length : Int) i (l.take i.toNat) i p (rd_T80 l i).f0 (rd_T80 l i).f1 (rd_T80 l i).f2) (fun p => (i - p).toNat) (fun p => 0 ≤ p ∧ p ≤ i ∧ ∀ q : Int, 0 ≤ q → q < p → ¬ ntMeet (rd_T80 l q) (rd_T80 l i))
      (fun _ => (fun b => (b = true) ↔ ((∀ j : Int, i ≤ j → j < (l.length : Int) → ntC l j) ∧ (l.length : Int) ≤ 30))) ?_ 0 ⟨Int.le_refl _, h0, fun q a b => by omega⟩
    rintro p ⟨p0, p1, pq⟩ ihp
    simp only [spec_ntGood.l1, hlen, wrap64_id (show -9223372036854775808 ≤ i + 1 by omega) (by omega), wrap64_id (show -9223372036854775808 ≤ p + 1 by omega) (by omega)]
    refine tite (fun c => ?_) (fun c => ?_)
    · refine tpos p0 (tpos c ?_)
      simp only [nt_take l i p p0 c]
      have hs := nt_start l i hp hA.2 p p0 c
      have o1 := (hp p p0 c).1
      have o2 := hA.1
      simp only [ntMeet_eq _ _ _ _ _ _ o2 o1, Option.bind_some, decide_eq_true_eq]
      unfold OkNote at o1 o2
      have go : ¬ ntMeet (rd_T80 l p) (rd_T80 l i) → Tot (fun k => spec_ntGood.l1 k l l (l.length : Int) i (l.take i.toNat) i (p + 1) (rd_T80 l i).f0 (rd_T80 l i).f1 (rd_T80 l i).f2) (fun b => (b = true) ↔ ((∀ j : Int, i ≤ j → j < (l.length : Int) → ntC l j) ∧ (l.length : Int) ≤ 30)) := fun hm =>
        ihp (p + 1) ⟨by omega, by omega, fun q q0 q1 => by
          by_cases e : q = p
          · rw [e]; exact hm
          · exact pq q q0 (by omega)⟩ (by (try dsimp only); omega)
      repeat' (refine tite (fun _ => ?_) (fun _ => ?_))
      all_goals first
        | exact go (by unfold ntMeet; omega)
        | exact hno a (fun h => h.2.2 p p0 c (by unfold ntMeet; omega))
    · have Ci : ntC l i := ⟨hA.1, hA.2, fun q q0 q1 => pq q q0 (by omega)⟩
      exact tmono (ih (i + 1) ⟨by omega, by omega, fun j j0 j1 => by
        by_cases e : j = i
        · rw [e]; exact Ci
        · exact hp j j0 (by omega)⟩ (by (try dsimp only); omega)) (fun b hb => all_go a Ci hb)
  simp only [spec_ntGood.l0, ntNote_eq, ntBefore_eq, Option.bind_some, decide_eq_true_eq]
  simp only [show wrap64 (i - 1) = i - 1 from wrap64_id (by omega) (by omega)]
  by_cases hL : ntLess (rd_T80 l (i - 1)) (rd_T80 l i)
  all_goals
    have hL2 := hL
    unfold ntLess at hL2
    simp only [hL2, decide_true, decide_false, Bool.not_true, Bool.not_false]
    repeat' (refine tite (fun _ => ?_) (fun _ => ?_))
    all_goals first
      | (exfalso; omega)
      | exact hjF (by omega) ⟨by assumption, fun _ => hL⟩
      | exact hjF (by omega) ⟨by assumption, fun h => absurd h (by omega)⟩
      | exact hjT (by omega) (fun h => absurd h.1 (by assumption))
      | exact hjT (by omega) (fun h => absurd (h.2 (by omega)) hL)
      | exact tsome (all_end (by omega) (by simp only [decide_eq_true_eq]))
theorem nt_impl_IsScore_loop (l : List S80) (hl : l.length ≤ 1048576) : Tot (fun k => impl_IsScore.l0 k l l (l.length : Int) 0) (fun b => (b = true) ↔ ((∀ j : Int, 0 ≤ j → j < (l.length : Int) → ntC l j) ∧ True)) := by
  refine trec (σ := Int) (fun i k => impl_IsScore.l0 k l l (l.length : Int) i) (fun i => ((l.length : Int) - i).toNat) (fun i => 0 ≤ i ∧ i ≤ (l.length : Int) ∧ ∀ j : Int, 0 ≤ j → j < i → ntC l j)
    (fun i b => (b = true) ↔ ((∀ j : Int, i ≤ j → j < (l.length : Int) → ntC l j) ∧ True)) ?_ 0 ⟨Int.le_refl _, by omega, fun j a b => by omega⟩
  rintro i ⟨h0, h1, hp⟩ ih
  have hno : i < (l.length : Int) → ¬ ntC l i → Tot (fun _ => some false) (fun b => (b = true) ↔ ((∀ j : Int, i ≤ j → j < (l.length : Int) → ntC l j) ∧ True)) := fun a b => tsome (all_no a b)
  have hjT : i < (l.length : Int) → ¬ ntA l i → Tot (fun k => impl_IsScore.j1 k l i l (l.length : Int) i true (rd_T80 l i).f0 (rd_T80 l i).f1 (rd_T80 l i).f2) (fun b => (b = true) ↔ ((∀ j : Int, i ≤ j → j < (l.length : Int) → ntC l j) ∧ True)) := by
    intro a b
    refine tstep ?_
    simp only [impl_IsScore.j1, if_true]
    exact hno a (fun h => b ⟨h.1, h.2.1⟩)
  have hjF : i < (l.length : Int) → ntA l i → Tot (fun k => impl_IsScore.j1 k l i l (l.length : Int) i false (rd_T80 l i).f0 (rd_T80 l i).f1 (rd_T80 l i).f2) (fun b => (b = true) ↔ ((∀ j : Int, i ≤ j → j < (l.length : Int) → ntC l j) ∧ True)) := by
    intro a hA
    refine tstep ?_
    simp only [impl_IsScore.j1, Option.bind_some]
    refine tneg (by simp) (tpos h0 (tpos h1 ?_))
    have hlen : ((l.take i.toNat).length : Int) = i := by simp; omega
    rw [hlen]
    refine trec (σ := Int) (fun p k => impl_IsScore.l1 k l l (l.length : Int) i (l.take i.toNat) i p (rd_T80 l i).f0 (rd_T80 l i).f1 (rd_T80 l i).f2) (fun p => (i - p).toNat) (fun p => 0 ≤ p ∧ p ≤ i ∧ ∀ q : Int, 0 ≤ q → q < p → ¬ ntMeet (rd_T80 l q) (rd_T80 l i))
      (fun _ => (fun b => (b = true) ↔ ((∀ j : Int, i ≤ j → j < (l.length : Int) → ntC l j) ∧ True))) ?_ 0 ⟨Int.le_refl _, h0, fun q a b => by omega⟩
    rintro p ⟨p0, p1, pq⟩ ihp
    simp only [impl_IsScore.l1, hlen, wrap64_id (show -9223372036854775808 ≤ i + 1 by omega) (by omega), wrap64_id (show -9223372036854775808 ≤ p + 1 by omega) (by omega)]
    refine tite (fun c => ?_) (fun c => ?_)
    · refine tpos p0 (tpos c ?_)
      simp only [nt_take l i p p0 c]
      have hs := nt_start l i hp hA.2 p p0 c
      have o1 := (hp p p0 c).1
      have o2 := hA.1
      simp only [noteEnd_eq _ _ _ o1, Option.bind_some]
      unfold OkNote at o1 o2
      have go : ¬ ntMeet (rd_T80 l p) (rd_T80 l i) → Tot (fun k => impl_IsScore.l1 k l l (l.length : Int) i (l.take i.toNat) i (p + 1) (rd_T80 l i).f0 (rd_T80 l i).f1 (rd_T80 l i).f2) (fun b => (b = true) ↔ ((∀ j : Int, i ≤ j → j < (l.length : Int) → ntC l j) ∧ True)) := fun hm =>
        ihp (p + 1) ⟨by omega, by omega, fun q q0 q1 => by
          by_cases e : q = p
          · rw [e]; exact hm
          · exact pq q q0 (by omega)⟩ (by (try dsimp only); omega)
      repeat' (refine tite (fun _ => ?_) (fun _ => ?_))
      all_goals first
        | exact go (by unfold ntMeet; omega)
        | exact hno a (fun h => h.2.2 p p0 c (by unfold ntMeet; omega))
    · have Ci : ntC l i := ⟨hA.1, hA.2, fun q q0 q1 => pq q q0 (by omega)⟩
      exact tmono (ih (i + 1) ⟨by omega, by omega, fun j j0 j1 => by
        by_cases e : j = i
        · rw [e]; exact Ci
        · exact hp j j0 (by omega)⟩ (by (try dsimp only); omega)) (fun b hb => all_go a Ci hb)
  simp only [impl_IsScore.l0, implIsNote_eq, noteLess_eq, Option.bind_some, decide_eq_true_eq]
  simp only [show wrap64 (i - 1) = i - 1 from wrap64_id (by omega) (by omega)]
  by_cases hL : ntLess (rd_T80 l (i - 1)) (rd_T80 l i)
  all_goals
    have hL2 := hL
    unfold ntLess at hL2
    simp only [hL2, decide_true, decide_false, Bool.not_true, Bool.not_false]
    repeat' (refine tite (fun _ => ?_) (fun _ => ?_))
    all_goals first
      | (exfalso; omega)
      | exact hjF (by omega) ⟨by assumption, fun _ => hL⟩
      | exact hjF (by omega) ⟨by assumption, fun h => absurd h (by omega)⟩
      | exact hjT (by omega) (fun h => absurd h.1 (by assumption))
      | exact hjT (by omega) (fun h => absurd (h.2 (by omega)) hL)
      | exact tsome (all_end (by omega) (by simp))
theorem ntGood_tot (l : List S80) (hl : l.length ≤ 1048576) : Tot (fun k => spec_ntGood.f k l) (fun b => (b = true) ↔ ntGood l) := by
  unfold spec_ntGood.f
  exact nt_spec_ntGood_loop l hl
theorem isScore_tot (l : List S80) (hl : l.length ≤ 1048576) : Tot (fun k => impl_IsScore.f k l) (fun b => (b = true) ↔ ntGood l) := by
  unfold impl_IsScore.f ntGood
  refine tite (fun c => tsome ⟨(fun h => by simp at h), (fun h => by have := h.2; omega)⟩) (fun c => ?_)
  refine tmono (nt_impl_IsScore_loop l hl) (fun b hb => ?_)
  rw [hb]
  exact ⟨fun h => ⟨h.1, by omega⟩, fun h => ⟨h.1, trivial⟩⟩
def mkNote (j : Int) (n : Nat) : List S80 := (List.range n).map fun i : Nat => (⟨j + 3 * (i : Int) + 0, j + 3 * (i : Int) + 1, j + 3 * (i : Int) + 2⟩ : S80)
theorem mkNote_at (j : Int) (n : Nat) (i : Int) (h0 : 0 ≤ i) (h : i < n) : rd_T80 (mkNote j n) i = ⟨j + 3 * i + 0, j + 3 * i + 1, j + 3 * i + 2⟩ := by
  obtain ⟨m, rfl⟩ := Int.eq_ofNat_of_zero_le h0
  have hm : m < n := by omega
  unfold rd_T80 mkNote
  simp [List.getD, hm]
theorem markNoteS (l : List S80) (j : Int) (hl : l.length ≤ 1048576) (hj : 0 ≤ j) (hj2 : j ≤ 1125899906842624) : Tot (fun k => laws_markNoteS.f k l j) (fun r => r = (j + 3 * (l.length : Int), mkNote j l.length)) := by
  unfold laws_markNoteS.f
  have key := trec (σ := List S80 × Int) (fun s k => laws_markNoteS.l0 k s.1 (j + 3 * s.2) s.2) (fun s => ((l.length : Int) - s.2).toNat)
    (fun s => 0 ≤ s.2 ∧ s.2 ≤ (l.length : Int) ∧ s.1.length = l.length ∧ ∀ i : Int, 0 ≤ i → i < s.2 → rd_T80 s.1 i = rd_T80 (mkNote j l.length) i) (fun _ r => r = (j + 3 * (l.length : Int), mkNote j l.length)) ?_
  · have h := key (l, 0) ⟨Int.le_refl _, by dsimp only; omega, rfl, fun i h0 h1 => by dsimp only at h1; omega⟩
    simpa using h
  · rintro ⟨ys, i⟩ ⟨h0, h1, h2, h3⟩ ih
    dsimp only at h0 h1 h2 h3
    simp only [laws_markNoteS.l0, Option.bind_some]
    refine tite (fun c => ?_) (fun c => ?_)
    · refine tpos h0 ?_
      have hi : i.toNat < ys.length := by omega
      have e : ∀ x : S80, rd_T80 (ys.set i.toNat x) i = x := fun x => by
        unfold rd_T80; exact ld_set_self x i (by omega) h0
      simp only [e, List.set_set, wrap64_id (x := j + 3 * i + 1) (by omega) (by omega), wrap64_id (x := j + 3 * i + 1 + 1) (by omega) (by omega), wrap64_id (x := j + 3 * i + 1 + 1 + 1) (by omega) (by omega)]
      rw [show j + 3 * i + 1 + 1 + 1 = j + 3 * (i + 1) by omega, wrap64_id (x := i + 1) (by omega) (by omega)]
      refine ih (_, i + 1) ⟨by dsimp only; omega, by dsimp only; omega, by simp [h2], ?_⟩ (by dsimp only; omega)
      intro p p0 p1
      dsimp only at p1 ⊢
      by_cases ep : p = i
      · subst ep
        rw [e, mkNote_at j _ p p0 (by omega)]
        congr 1 <;> omega
      · unfold rd_T80
        rw [ld_set_ne _ _ _ h0 p0 (by omega)]
        exact h3 p p0 (by omega)
    · obtain rfl : i = (l.length : Int) := by omega
      refine tsome ?_
      congr 1
      refine ld_ext (z := z80) (by simp [mkNote, h2]) (fun p p0 p1 => ?_)
      exact h3 p p0 (by omega)
theorem rd_eq (xs : List Int) (i : Int) : rd xs i = xs.getD i.toNat 0 := rfl
theorem toIntS (l : List Int) (hl : l.length ≤ 1048576) : Tot (fun k => laws_toIntS.f k l) (fun r => r = l) := by
  unfold laws_toIntS.f
  refine tpos (by omega) (tpos (by omega) ?_)
  have key := trec (σ := List Int × Int) (fun s k => laws_toIntS.l0 k l s.1 s.2) (fun s => ((l.length : Int) - s.2).toNat)
    (fun s => 0 ≤ s.2 ∧ s.2 ≤ (l.length : Int) ∧ s.1.length = l.length ∧ ∀ j : Int, 0 ≤ j → j < s.2 → s.1.getD j.toNat 0 = l.getD j.toNat 0) (fun _ r => r = l) ?_
  · exact key (List.replicate (l.length : Int).toNat 0, 0) ⟨Int.le_refl _, by dsimp only; omega, by simp, fun j h0 h1 => by dsimp only at h1; omega⟩
  · rintro ⟨ys, i⟩ ⟨h0, h1, h2, h3⟩ ih
    dsimp only at h0 h1 h2 h3
    simp only [laws_toIntS.l0]
    refine tite (fun c => ?_) (fun c => ?_)
    · refine tpos h0 (tpos (by omega) ?_)
      rw [wrap64_id (by omega) (by omega)]
      refine ih (_, i + 1) ⟨by dsimp only; omega, by dsimp only; omega, by simp [h2], ?_⟩ (by dsimp only; omega)
      intro j hj0 hj1
      dsimp only at hj1 ⊢
      by_cases e : j = i
      · subst e; rw [ld_set_self _ _ (by omega) hj0]; rfl
      · rw [ld_set_ne _ _ _ h0 hj0 (by omega)]; exact h3 j hj0 (by omega)
    · exact tsome (ld_ext (z := 0) h2 (fun j a b => h3 j a (by omega)))
theorem eqIntS (l : List Int) (hl : l.length ≤ 1048576) : Tot (fun k => laws_eqIntS.f k l l) (fun r => r = true) := by
  unfold laws_eqIntS.f
  refine tpos rfl ?_
  refine trec (σ := Int) (fun i k => laws_eqIntS.l0 k l l i) (fun i => ((l.length : Int) - i).toNat) (fun i => 0 ≤ i ∧ i ≤ (l.length : Int)) (fun _ r => r = true) ?_ 0 ⟨Int.le_refl _, by omega⟩
  rintro i ⟨h0, h1⟩ ih
  simp only [laws_eqIntS.l0, if_true]
  refine tite (fun c => ?_) (fun c => tsome rfl)
  refine tpos h0 (tpos (by omega) ?_)
  rw [wrap64_id (by omega) (by omega)]
  exact ih (i + 1) ⟨by omega, by omega⟩ (by (try dsimp only); omega)
theorem szIntS (l : List Int) (n : Int) (hn : 0 ≤ n) (hn2 : n ≤ 1048576) (hl : l.length ≤ 9223372036854775807) : laws_szIntS.f l n = some (if n < l.length then -1 else n - l.length) := by
  unfold laws_szIntS.f
  simp only [wrap64_id (x := n - (l.length : Int)) (by omega) (by omega)]
  by_cases h : n < l.length
  · rw [if_pos (by omega), if_pos h]
  · rw [if_neg (by omega), if_neg h]
def mkInts (j : Int) (n : Nat) : List Int := (List.range n).map fun i : Nat => j + (i : Int)
theorem mkInts_at (j : Int) (n : Nat) (i : Int) (h0 : 0 ≤ i) (h : i < n) : rd (mkInts j n) i = j + i := by
  obtain ⟨m, rfl⟩ := Int.eq_ofNat_of_zero_le h0
  have hm : m < n := by omega
  unfold rd mkInts
  simp [List.getD, hm]
theorem markIntS (l : List Int) (j : Int) (hl : l.length ≤ 1048576) (hj : 0 ≤ j) (hj2 : j ≤ 1125899906842624) : Tot (fun k => laws_markIntS.f k l j) (fun r => r = (j + (l.length : Int), mkInts j l.length)) := by
  unfold laws_markIntS.f
  have key := trec (σ := List Int × Int) (fun s k => laws_markIntS.l0 k s.1 (j + s.2) s.2) (fun s => ((l.length : Int) - s.2).toNat)
    (fun s => 0 ≤ s.2 ∧ s.2 ≤ (l.length : Int) ∧ s.1.length = l.length ∧ ∀ i : Int, 0 ≤ i → i < s.2 → rd s.1 i = rd (mkInts j l.length) i) (fun _ r => r = (j + (l.length : Int), mkInts j l.length)) ?_
  · have h := key (l, 0) ⟨Int.le_refl _, by dsimp only; omega, rfl, fun i h0 h1 => by dsimp only at h1; omega⟩
    simpa using h
  · rintro ⟨ys, i⟩ ⟨h0, h1, h2, h3⟩ ih
    dsimp only at h0 h1 h2 h3
    simp only [laws_markIntS.l0, Option.bind_some]
    refine tite (fun c => ?_) (fun c => ?_)
    · refine tpos h0 ?_
      rw [wrap64_id (x := j + i + 1) (by omega) (by omega), wrap64_id (x := i + 1) (by omega) (by omega), show j + i + 1 = j + (i + 1) by omega]
      refine ih (_, i + 1) ⟨by dsimp only; omega, by dsimp only; omega, by simp [h2], ?_⟩ (by dsimp only; omega)
      intro p p0 p1
      dsimp only at p1 ⊢
      by_cases ep : p = i
      · subst ep
        rw [mkInts_at j _ p p0 (by omega)]
        unfold rd; exact ld_set_self _ p (by omega) p0
      · unfold rd
        rw [ld_set_ne _ _ _ h0 p0 (by omega)]
        exact h3 p p0 (by omega)
    · obtain rfl : i = (l.length : Int) := by omega
      refine tsome ?_
      congr 1
      refine ld_ext (z := 0) (by simp [mkInts, h2]) (fun p p0 p1 => ?_)
      exact h3 p p0 (by omega)
theorem heldIntS (j : Int) (n : Nat) (hn : n ≤ 1048576) (hj : 0 ≤ j) (hj2 : j ≤ 1125899906842624) : Tot (fun k => laws_heldIntS.f k (mkInts j n) j) (fun r => r = j + (n : Int)) := by
  unfold laws_heldIntS.f
  have hlen : ((mkInts j n).length : Int) = n := by simp [mkInts]
  have key := trec (σ := Int) (fun i k => laws_heldIntS.l0 k (mkInts j n) (j + i) i) (fun i => ((n : Int) - i).toNat) (fun i => 0 ≤ i ∧ i ≤ (n : Int)) (fun _ r => r = j + (n : Int)) ?_ 0 ⟨Int.le_refl _, by omega⟩
  · simpa using key
  · rintro i ⟨h0, h1⟩ ih
    simp only [laws_heldIntS.l0, hlen]
    refine tite (fun c => ?_) (fun c => ?_)
    · refine tpos h0 ?_
      simp only [mkInts_at j n i h0 c]
      refine tpos (by first | trivial | rfl) ?_
      rw [wrap64_id (x := j + i + 1) (by omega) (by omega), wrap64_id (x := i + 1) (by omega) (by omega), show j + i + 1 = j + (i + 1) by omega]
      exact ih (i + 1) ⟨by omega, by omega⟩ (by (try dsimp only); omega)
    · exact tsome (by omega)
theorem toInstrument (l : List Int) (a : Int) (hl : l.length ≤ 1048576) : Tot (fun k => laws_toInstrument.f k l a) (fun r => r = (l, a)) := by
  unfold laws_toInstrument.f
  refine tbind (toIntS l hl) (fun _ e => ?_); subst e
  exact tsome rfl
theorem eqInstrument (l : List Int) (a : Int) (hl : l.length ≤ 1048576) : Tot (fun k => laws_eqInstrument.f k l a l a) (fun r => r = true) := by
  unfold laws_eqInstrument.f
  refine tbind (eqIntS l hl) (fun _ e => ?_); subst e
  exact tpos rfl (tpos rfl (tsome rfl))
theorem szInstrument (l : List Int) (a n : Int) (hn : 0 ≤ n) (hn2 : n ≤ 1048576) (hl : l.length ≤ 9223372036854775807) : laws_szInstrument.f l a n = some (if n < l.length then -1 else n - l.length) := by
  unfold laws_szInstrument.f
  rw [szIntS l n hn hn2 hl]
  simp only [Option.bind_some]
  by_cases h : n < l.length
  · simp only [if_pos h]; rw [if_pos (by omega)]
  · simp only [if_neg h]; rw [if_neg (by omega)]
theorem isPitch_eq (a : Int) : impl_isPitch.f a = some (decide (24 ≤ a ∧ a ≤ 96)) := by
  unfold impl_isPitch.f
  by_cases h : 24 ≤ a <;> simp [h]
def InC (l : List Int) (j : Int) : Prop := 24 ≤ rd l j ∧ rd l j ≤ 96 ∧ (0 < j → rd l (j - 1) < rd l j)
def InGood (l : List Int) (a : Int) : Prop := (∀ j : Int, 0 ≤ j → j < (l.length : Int) → InC l j) ∧ (1 ≤ (l.length : Int) ∧ (l.length : Int) ≤ 20 ∧ 1 ≤ a ∧ a ≤ 20)
theorem l1Rising_tot (l : List Int) (hl : l.length ≤ 1048576) : Tot (fun k => spec_l1Rising.f k l 24 96) (fun b => (b = true) ↔ ((∀ j : Int, 0 ≤ j → j < (l.length : Int) → InC l j) ∧ True)) := by
  unfold spec_l1Rising.f
  refine trec (σ := Int) (fun i k => spec_l1Rising.l0 k l 24 96 l (l.length : Int) i) (fun i => ((l.length : Int) - i).toNat) (fun i => 0 ≤ i ∧ i ≤ (l.length : Int))
    (fun i b => (b = true) ↔ ((∀ j : Int, i ≤ j → j < (l.length : Int) → InC l j) ∧ True)) ?_ 0 ⟨Int.le_refl _, by omega⟩
  rintro i ⟨h0, h1⟩ ih
  simp only [spec_l1Rising.l0, l1In_eq, Option.bind_some, decide_eq_true_eq]
  simp only [show wrap64 (i + 1) = i + 1 from wrap64_id (by omega) (by omega), show wrap64 (i - 1) = i - 1 from wrap64_id (by omega) (by omega)]
  repeat' (refine tite (fun _ => ?_) (fun _ => ?_))
  all_goals first
    | (exfalso; omega)
    | exact tsome (all_no (by omega) (by unfold InC; omega))
    | exact tmono (ih (i + 1) ⟨by omega, by omega⟩ (by (try dsimp only); omega)) (fun b hb => all_go (by omega) (by unfold InC; omega) hb)
    | exact tsome (all_end (by omega) (by simp))
theorem inGood_tot (l : List Int) (a : Int) (hl : l.length ≤ 1048576) : Tot (fun k => spec_inGood.f k l a) (fun b => (b = true) ↔ InGood l a) := by
  unfold spec_inGood.f
  simp only [l1In_eq, Option.bind_some, decide_eq_true_eq]
  refine tite (fun c => ?_) (fun c => tsome ⟨(fun h => by simp at h), (fun h => by have := h.2; omega)⟩)
  refine tbind (l1Rising_tot l hl) (fun b hb => ?_)
  refine tite (fun c2 => ?_) (fun c2 => tsome ⟨(fun h => by simp at h), (fun h => absurd (hb.2 ⟨h.1, trivial⟩) c2)⟩)
  refine tsome ?_
  have := (hb.1 c2).1
  unfold InGood
  simp only [decide_eq_true_eq]
  exact ⟨fun h => ⟨this, by omega⟩, fun h => by omega⟩
theorem isInstrument_tot (l : List Int) (a : Int) (hl : l.length ≤ 1048576) : Tot (fun k => impl_IsInstrument.f k l a) (fun b => (b = true) ↔ InGood l a) := by
  have key : 1 ≤ (l.length : Int) → (l.length : Int) ≤ 20 → 1 ≤ a → a ≤ 20 → Tot (fun k => impl_IsInstrument.l0 k l (l.length : Int) 0 l a) (fun b => (b = true) ↔ InGood l a) := by
    intro g1 g2 g3 g4
    refine tmono (trec (σ := Int) (fun i k => impl_IsInstrument.l0 k l (l.length : Int) i l a) (fun i => ((l.length : Int) - i).toNat) (fun i => 0 ≤ i ∧ i ≤ (l.length : Int))
      (fun i b => (b = true) ↔ ((∀ j : Int, i ≤ j → j < (l.length : Int) → InC l j) ∧ True)) ?_ 0 ⟨Int.le_refl _, by omega⟩) (fun b hb => ?_)
    · rintro i ⟨h0, h1⟩ ih
      simp only [impl_IsInstrument.l0, isPitch_eq, Option.bind_some, decide_eq_true_eq]
      simp only [show wrap64 (i + 1) = i + 1 from wrap64_id (by omega) (by omega), show wrap64 (i - 1) = i - 1 from wrap64_id (by omega) (by omega)]
      repeat' (refine tite (fun _ => ?_) (fun _ => ?_))
      all_goals first
        | (exfalso; omega)
        | exact tsome (all_no (by omega) (by unfold InC; omega))
        | exact tmono (ih (i + 1) ⟨by omega, by omega⟩ (by (try dsimp only); omega)) (fun b hb => all_go (by omega) (by unfold InC; omega) hb)
        | exact tsome (all_end (by omega) (by simp))
    · rw [hb]; unfold InGood
      exact ⟨fun h => ⟨h.1, g1, g2, g3, g4⟩, fun h => ⟨h.1, trivial⟩⟩
  have no : ¬ InGood l a → Tot (fun k => impl_IsInstrument.j0 k true l a) (fun b => (b = true) ↔ InGood l a) := by
    intro hn
    refine tstep ?_
    simp only [impl_IsInstrument.j0, if_true]
    exact tsome ⟨(fun h => by simp at h), (fun h => absurd h hn)⟩
  unfold impl_IsInstrument.f
  refine tite (fun c => no (fun h => by have := h.2; omega)) (fun c1 => ?_)
  refine tite (fun c => no (fun h => by have := h.2; omega)) (fun c2 => ?_)
  refine tite (fun c => no (fun h => by have := h.2; omega)) (fun c3 => ?_)
  by_cases h : a > 20
  · rw [decide_eq_true h]
    exact no (fun h => by have := h.2; omega)
  · rw [decide_eq_false h]
    refine tstep ?_
    simp only [impl_IsInstrument.j0]
    exact tneg (by simp) (key (by omega) (by omega) (by omega) (by omega))
theorem ntPitch_eq (a : Int) : spec_ntPitch.f a = some (decide (24 ≤ a ∧ a ≤ 96)) := by
  unfold spec_ntPitch.f
  simp only [l1In_eq, Option.bind_some]
def Idx (l : List Int) (x i r : Int) : Prop := (r = -1 ∧ ∀ j : Int, i ≤ j → j < (l.length : Int) → rd l j ≠ x) ∨ (i ≤ r ∧ r < (l.length : Int) ∧ rd l r = x ∧ ∀ j : Int, i ≤ j → j < r → rd l j ≠ x)
theorem Idx.go {l : List Int} {x i r : Int} (hx : rd l i ≠ x) (h : Idx l x (i + 1) r) : Idx l x i r := by
  rcases h with ⟨e, h⟩ | ⟨a, b, c, h⟩
  · refine .inl ⟨e, fun j j0 j1 => ?_⟩
    by_cases e : j = i
    · rw [e]; exact hx
    · exact h j (by omega) j1
  · refine .inr ⟨by omega, b, c, fun j j0 j1 => ?_⟩
    by_cases e : j = i
    · rw [e]; exact hx
    · exact h j (by omega) j1
theorem Idx.det {l : List Int} {x r r' : Int} (h : Idx l x 0 r) (h' : Idx l x 0 r') : r = r' := by
  rcases h with ⟨e, h⟩ | ⟨a, b, c, h⟩ <;> rcases h' with ⟨e', h'⟩ | ⟨a', b', c', h'⟩
  · omega
  · exact absurd c' (h r' a' b')
  · exact absurd c (h' r a b)
  · rcases Int.lt_trichotomy r r' with g | g | g
    · exact absurd c (h' r a g)
    · exact g
    · exact absurd c' (h r' a' g)
theorem inTrack_tot (l : List Int) (a x : Int) (hl : l.length ≤ 1048576) : Tot (fun k => spec_inTrack.f k l a x) (fun r => Idx l x 0 r) := by
  unfold spec_inTrack.f
  refine trec (σ := Int) (fun i k => spec_inTrack.l0 k x l (l.length : Int) i) (fun i => ((l.length : Int) - i).toNat) (fun i => 0 ≤ i ∧ i ≤ (l.length : Int)) (fun i r => Idx l x i r) ?_ 0 ⟨Int.le_refl _, by omega⟩
  rintro i ⟨h0, h1⟩ ih
  simp only [spec_inTrack.l0]
  refine tite (fun c => ?_) (fun c => tsome (.inl ⟨rfl, fun j j0 j1 => by omega⟩))
  refine tpos h0 (tpos c ?_)
  refine tite (fun c2 => tsome (.inr ⟨Int.le_refl _, c, c2, fun j j0 j1 => by omega⟩)) (fun c2 => ?_)
  rw [wrap64_id (by omega) (by omega)]
  exact tmono (ih (i + 1) ⟨by omega, by omega⟩ (by (try dsimp only); omega)) (fun r hr => hr.go c2)
theorem slicesIndex_tot (l : List Int) (x : Int) (hl : l.length ≤ 1048576) : Tot (fun k => slices_Index_int_int.f k l x) (fun r => Idx l x 0 r) := by
  unfold slices_Index_int_int.f
  refine trec (σ := Int) (fun i k => slices_Index_int_int.l0 k l x (l.length : Int) i) (fun i => ((l.length : Int) - i).toNat) (fun i => 0 ≤ i ∧ i ≤ (l.length : Int)) (fun i r => Idx l x i r) ?_ 0 ⟨Int.le_refl _, by omega⟩
  rintro i ⟨h0, h1⟩ ih
  simp only [slices_Index_int_int.l0]
  refine tite (fun c => ?_) (fun c => tsome (.inl ⟨rfl, fun j j0 j1 => by omega⟩))
  refine tpos h0 (tpos c ?_)
  refine tite (fun c2 => tsome (.inr ⟨Int.le_refl _, c, c2.symm, fun j j0 j1 => by omega⟩)) (fun c2 => ?_)
  rw [wrap64_id (by omega) (by omega)]
  exact tmono (ih (i + 1) ⟨by omega, by omega⟩ (by (try dsimp only); omega)) (fun r hr => hr.go (fun e => c2 e.symm))
theorem Idx.pos {l : List Int} {x r : Int} (h : Idx l x 0 r) : 0 ≤ r ↔ x ∈ l := by
  constructor
  · intro h0
    rcases h with ⟨e, _⟩ | ⟨a, b, c, _⟩
    · omega
    · rw [← c]; exact ld_mem r b a
  · intro hx
    rcases h with ⟨e, h⟩ | ⟨a, b, c, _⟩
    · obtain ⟨i, hi, e2⟩ := List.getElem_of_mem hx
      have := h (i : Int) (by omega) (by omega)
      unfold rd at this
      simp [List.getD, hi, e2] at this
    · omega
theorem contains_tot (l : List Int) (x : Int) (hl : l.length ≤ 1048576) : Tot (fun k => slices_Contains_int_int.f k l x) (fun b => (b = true) ↔ x ∈ l) := by
  unfold slices_Contains_int_int.f
  exact tbind (slicesIndex_tot l x hl) (fun r hr => tsome (by rw [decide_eq_true_eq]; exact hr.pos))
theorem markInstrument (l : List Int) (a j : Int) (hl : l.length ≤ 1048576) (hj : 0 ≤ j) (hj2 : j ≤ 1125899906842624) : Tot (fun k => laws_markInstrument.f k l a j) (fun r => r = (j + (l.length : Int), mkInts j l.length)) := by
  unfold laws_markInstrument.f
  refine tbind (markIntS l j hl hj hj2) (fun _ e => ?_); subst e
  exact tsome rfl
def inpl {α : Type} (f : α → α) (l : List α) (i : Nat) : List α := (l.take i).map f ++ l.drop i
theorem inpl_len {α : Type} (f : α → α) (l : List α) (i : Nat) (h : i ≤ l.length) : (inpl f l i).length = l.length := by
  unfold inpl; simp; omega
theorem inpl_zero {α : Type} (f : α → α) (l : List α) : inpl f l 0 = l := by simp [inpl]
theorem inpl_end {α : Type} (f : α → α) (l : List α) : inpl f l l.length = l.map f := by simp [inpl]
theorem inpl_at {α : Type} (z : α) (f : α → α) (l : List α) (i : Nat) (h : i < l.length) : (inpl f l i).getD i z = l.getD i z := by
  unfold inpl
  have h1 : ((l.take i).map f).length = i := by simp; omega
  rw [List.getD, List.getElem?_append_right (by omega), h1, Nat.sub_self]
  simp [List.getD, h]
theorem inpl_set {α : Type} (z : α) (f : α → α) (l : List α) (i : Nat) (h : i < l.length) : (inpl f l i).set i (f (l.getD i z)) = inpl f l (i + 1) := by
  unfold inpl
  have h1 : ((l.take i).map f).length = i := by simp; omega
  rw [List.set_append_right _ _ (by omega), h1, Nat.sub_self, List.drop_eq_getElem_cons h, List.set_cons_zero, List.take_succ_eq_append_getElem h, List.map_append, List.append_assoc]
  simp [List.getD, h]
theorem take_up {α β : Type} (z : α) (f : α → β) (l : List α) (i : Nat) (h : i < l.length) : (l.take (i + 1)).map f = (l.take i).map f ++ [f (l.getD i z)] := by
  rw [List.take_succ_eq_append_getElem h, List.map_append]
  simp [List.getD, h]
def putL (n : Int) : List Int → List Int
  | [] => [n]
  | x :: xs => if x < n then x :: putL n xs else if x = n then x :: xs else n :: x :: xs
theorem putL_len (n : Int) (l : List Int) : 1 ≤ (putL n l).length ∧ (putL n l).length ≤ l.length + 1 := by
  induction l with
  | nil => simp [putL]
  | cons x xs ih =>
    unfold putL
    split
    · simp; omega
    · split <;> simp
theorem putL_at (n : Int) (l : List Int) (i : Nat) (hi : i ≤ l.length) (h : ∀ j : Nat, j < i → rd l j < n) : putL n l = l.take i ++ putL n (l.drop i) := by
  induction i generalizing l with
  | zero => simp
  | succ i ih =>
    match l, hi with
    | x :: xs, hi =>
      have h0 := h 0 (by omega)
      have h0' : x < n := by simpa [rd, List.getD] using h0
      have hr : ∀ j : Nat, j < i → rd xs j < n := fun j hj => by
        have := h (j + 1) (by omega)
        simpa [rd, List.getD] using this
      have := ih xs (by simpa using hi) hr
      conv => lhs; unfold putL
      rw [if_pos h0', this]
      simp
theorem l1Put_tot (l : List Int) (n : Int) (hl : l.length ≤ 1048576) : Tot (fun k => spec_l1Put.f k l n) (fun r => r = putL n l) := by
  unfold spec_l1Put.f
  refine trec (σ := Nat) (fun i k => spec_l1Put.l0 k l n (i : Int)) (fun i => l.length - i) (fun i => i ≤ l.length ∧ ∀ j : Nat, j < i → rd l j < n) (fun _ r => r = putL n l) ?_ 0 ⟨Nat.zero_le _, fun j hj => by omega⟩
  rintro i ⟨hi, hp⟩ ih
  have hput := putL_at n l i hi hp
  simp only [spec_l1Put.l0, Option.bind_some, Int.toNat_natCast, List.nil_append, wrap64_id (x := (i : Int) + 1) (by omega) (by omega)]
  refine tite (fun c => ?_) (fun c => ?_)
  · have hlt : i < l.length := by omega
    have hd : l.drop i = rd l i :: l.drop (i + 1) := by
      rw [List.drop_eq_getElem_cons hlt]
      simp [rd, List.getD, hlt]
    refine tpos (by omega) ?_
    refine tite (fun c2 => ?_) (fun c2 => ?_)
    · have := ih (i + 1) ⟨by omega, fun j hj => by
        by_cases e : j = i
        · rw [e]; exact c2
        · exact hp j (by omega)⟩ (by omega)
      simpa using this
    · have e1 : putL n (l.drop i) = if rd l i = n then l.drop i else n :: l.drop i := by
        rw [hd]
        conv => lhs; unfold putL
        rw [if_neg c2]
      refine tite (fun c3 => tsome (by rw [hput, e1, if_pos c3, List.take_append_drop])) (fun c3 => ?_)
      refine tpos (by omega) (tpos (by simp; omega) (tpos (by simp; omega) (tpos (by simp; omega) (tsome ?_))))
      rw [hput, e1, if_neg c3, List.append_assoc]
      rfl
  · obtain rfl : i = l.length := by omega
    refine tpos (by omega) (tpos (by omega) (tpos (by simp; omega) (tpos (by simp; omega) (tpos (by simp; omega) (tsome ?_)))))
    rw [hput, List.append_assoc]
    simp [putL]
theorem Idx.neg {l : List Int} {x r : Int} (h : Idx l x 0 r) : r < 0 ↔ ¬ x ∈ l := by
  have h1 : 0 ≤ r ↔ x ∈ l := by
    constructor
    · intro h0
      rcases h with ⟨e, _⟩ | ⟨a, b, c, _⟩
      · omega
      · rw [← c]; exact ld_mem r b a
    · intro hx
      rcases h with ⟨e, h⟩ | ⟨a, b, c, _⟩
      · obtain ⟨i, hi, e2⟩ := List.getElem_of_mem hx
        have := h (i : Int) (by omega) (by omega)
        unfold rd at this
        simp [List.getD, hi, e2] at this
      · omega
  rw [← h1]
  omega
def misUpto (p : List Int) (l : List S80) : Nat → List Int
  | 0 => []
  | i + 1 => if (rd_T80 l i).f0 ∈ p then misUpto p l i else putL (rd_T80 l i).f0 (misUpto p l i)
theorem misUpto_len (p : List Int) (l : List S80) (i : Nat) : (misUpto p l i).length ≤ i := by
  induction i with
  | zero => simp [misUpto]
  | succ i ih =>
    unfold misUpto
    split
    · omega
    · have := putL_len (rd_T80 l i).f0 (misUpto p l i); omega
theorem misUpto_nil (p : List Int) (l : List S80) (i : Nat) : (misUpto p l i).length = 0 ↔ ∀ j : Nat, j < i → (rd_T80 l j).f0 ∈ p := by
  induction i with
  | zero => simp [misUpto]
  | succ i ih =>
    unfold misUpto
    split
    · rename_i c
      rw [ih]
      constructor
      · intro h j hj
        by_cases e : j = i
        · rw [e]; exact c
        · exact h j (by omega)
      · intro h j hj; exact h j (by omega)
    · rename_i c
      have := putL_len (rd_T80 l i).f0 (misUpto p l i)
      constructor
      · intro h; omega
      · intro h; exact absurd (h i (by omega)) c
theorem inMissing_tot (p : List Int) (a : Int) (l : List S80) (hp : p.length ≤ 1048576) (hl : l.length ≤ 1048576) : Tot (fun k => spec_inMissing.f k p a l) (fun r => r = misUpto p l l.length) := by
  unfold spec_inMissing.f
  refine trec (σ := Nat) (fun i k => spec_inMissing.l0 k (misUpto p l i) l (l.length : Int) (i : Int) p a) (fun i => l.length - i) (fun i => i ≤ l.length) (fun _ r => r = misUpto p l l.length) ?_ 0 (Nat.zero_le _)
  intro i hi ih
  have hlen := misUpto_len p l i
  simp only [spec_inMissing.l0, wrap64_id (x := (i : Int) + 1) (by omega) (by omega)]
  refine tite (fun c => ?_) (fun c => tsome (by rw [show i = l.length by omega]))
  refine tpos (by omega) (tpos c ?_)
  have go : ∀ o, o = misUpto p l (i + 1) → Tot (fun k => spec_inMissing.l0 k o l (l.length : Int) ((i : Int) + 1) p a) (fun r => r = misUpto p l l.length) := fun o e => by
    rw [e]
    have := ih (i + 1) (by omega) (by omega)
    simpa using this
  refine tbind (inTrack_tot p a _ hp) (fun r hr => ?_)
  refine tite (fun c2 => ?_) (fun c2 => go _ (by conv => rhs; unfold misUpto; rw [if_pos (Classical.byContradiction fun h => c2 (hr.neg.2 h))]))
  refine tbind (l1Put_tot _ _ (by omega)) (fun _ e => ?_); subst e
  exact go _ (by conv => rhs; unfold misUpto; rw [if_neg (hr.neg.1 c2)])
theorem inAsked_tot (p : List Int) (a : Int) (l : List S80) (hp : p.length ≤ 1048576) (hl : l.length ≤ 1048576) : Tot (fun k => spec_inAsked.f k p a l) (fun b => (b = true) ↔ (InGood p a ∧ ntGood l)) := by
  unfold spec_inAsked.f
  refine tbind (inGood_tot p a hp) (fun x hx => tite (fun c => ?_) (fun c => tsome ⟨(fun h => by simp at h), (fun h => absurd (hx.2 h.1) c)⟩))
  exact tbind (ntGood_tot l hl) (fun y hy => tsome ⟨fun h => ⟨hx.1 c, hy.1 h⟩, fun h => hy.2 h.2⟩)
theorem tlet {α β : Type} {v : α} {g : Nat → α → Option β} {Q : β → Prop} (h : Tot (fun k => g k v) Q) : Tot (fun k => (some v).bind fun y => g k y) Q := h
theorem take_drop_erase {α : Type} (l : List α) (m : Nat) : l.take m ++ l.drop (m + 1) = l.eraseIdx m := (List.eraseIdx_eq_take_drop_succ l m).symm
theorem wrapN1 (m : Nat) (h : m ≤ 1048576) : wrap64 ((m : Int) + 1) = ((m + 1 : Nat) : Int) := by rw [wrap64_id (by omega) (by omega)]; rfl
theorem erase_len {α : Type} (l : List α) (m : Nat) (h : l.length ≤ 1048576) : (l.eraseIdx m).length ≤ 1048576 := Nat.le_trans (List.length_eraseIdx_le l m) h
theorem putL_perm (n : Int) (l : List Int) (h : n ∉ l) : (putL n l).Perm (n :: l) := by
  induction l with
  | nil => exact List.Perm.refl _
  | cons x xs ih =>
    unfold putL
    split
    · exact ((ih (fun hm => h (List.mem_cons_of_mem _ hm))).cons x).trans (List.Perm.swap n x xs)
    · split
      · rename_i e; exact absurd (by rw [e]; exact List.mem_cons_self) h
      · exact List.Perm.refl _
theorem mem_putL (n y : Int) (l : List Int) : y ∈ putL n l ↔ y = n ∨ y ∈ l := by
  induction l with
  | nil => simp [putL]
  | cons x xs ih =>
    unfold putL
    split
    · rw [List.mem_cons, ih, List.mem_cons]; constructor <;> (intro h; rcases h with h | h | h <;> simp [h])
    · split
      · rename_i e; rw [List.mem_cons]; constructor
        · intro h; exact .inr h
        · intro h; rcases h with h | h
          · exact .inl (by rw [h, e])
          · exact h
      · rw [List.mem_cons]
theorem putL_sorted (n : Int) (l : List Int) (h : l.Pairwise (· < ·)) : (putL n l).Pairwise (· < ·) := by
  induction l with
  | nil => simp [putL]
  | cons x xs ih =>
    rw [List.pairwise_cons] at h
    unfold putL
    split
    · rename_i c
      rw [List.pairwise_cons]
      refine ⟨fun y hy => ?_, ih h.2⟩
      rcases (mem_putL n y xs).1 hy with e | e
      · rw [e]; exact c
      · exact h.1 y e
    · split
      · exact List.pairwise_cons.2 h
      · refine List.pairwise_cons.2 ⟨fun y hy => ?_, List.pairwise_cons.2 h⟩
        rcases List.mem_cons.1 hy with e | e
        · rw [e]; omega
        · have := h.1 y e; omega
def putAll (l : List Int) : List Int := l.foldl (fun acc x => putL x acc) []
theorem putAll_append (l : List Int) (x : Int) : putAll (l ++ [x]) = putL x (putAll l) := by
  unfold putAll
  rw [List.foldl_append]
  rfl
theorem putAll_sorted (l : List Int) : (putAll l).Pairwise (· < ·) := by
  unfold putAll
  suffices h : ∀ (l acc : List Int), acc.Pairwise (· < ·) → (l.foldl (fun acc x => putL x acc) acc).Pairwise (· < ·) from h l [] List.Pairwise.nil
  intro l
  induction l with
  | nil => intro acc h; exact h
  | cons x xs ih => intro acc h; exact ih _ (putL_sorted x acc h)
theorem putAll_mem (l : List Int) (y : Int) : y ∈ putAll l ↔ y ∈ l := by
  unfold putAll
  suffices h : ∀ (l acc : List Int), y ∈ l.foldl (fun acc x => putL x acc) acc ↔ y ∈ l ∨ y ∈ acc from (h l []).trans (by simp)
  intro l
  induction l with
  | nil => intro acc; simp
  | cons x xs ih =>
    intro acc
    rw [List.foldl_cons, ih, mem_putL, List.mem_cons]
    constructor
    · rintro (h | h | h)
      · exact .inl (.inr h)
      · exact .inl (.inl h)
      · exact .inr h
    · rintro ((h | h) | h)
      · exact .inr (.inl h)
      · exact .inl h
      · exact .inr (.inr h)
theorem putAll_perm (l : List Int) (h : l.Nodup) : (putAll l).Perm l := by
  unfold putAll
  suffices hh : ∀ (l acc : List Int), (∀ x ∈ l, x ∉ acc) → l.Nodup → (l.foldl (fun acc x => putL x acc) acc).Perm (l ++ acc) from (hh l [] (fun x _ => by simp) h).trans (by rw [List.append_nil])
  intro l
  induction l with
  | nil => intro acc _ _; exact List.Perm.refl _
  | cons x xs ih =>
    intro acc ha hn
    rw [List.nodup_cons] at hn
    rw [List.foldl_cons]
    refine (ih (putL x acc) (fun y hy hm => ?_) hn.2).trans ?_
    · rcases (mem_putL x y acc).1 hm with e | e
      · exact hn.1 (e ▸ hy)
      · exact ha y (List.mem_cons_of_mem _ hy) e
    · refine ((putL_perm x acc (ha x List.mem_cons_self)).append_left xs).trans ?_
      exact List.perm_middle
theorem sorted_unique (l m : List Int) (h1 : l.Pairwise (· ≤ ·)) (h2 : m.Pairwise (· ≤ ·)) (h : l.Perm m) : l = m :=
  List.Perm.eq_of_pairwise (fun a b _ _ x y => Int.le_antisymm x y) h1 h2 h
theorem sortI_sorted (l : List Int) : (l.mergeSort fun x y => decide (x ≤ y)).Pairwise (· ≤ ·) := by
  have := List.pairwise_mergeSort (le := fun x y : Int => decide (x ≤ y)) (fun a b c => by simp only [decide_eq_true_eq]; omega) (fun a b => by simp only [Bool.or_eq_true, decide_eq_true_eq]; omega) l
  exact this.imp (fun h => by simpa using h)
theorem sortI_putAll (l : List Int) (h : l.Nodup) : (l.mergeSort fun x y => decide (x ≤ y)) = putAll l :=
  sorted_unique _ _ (sortI_sorted l) ((putAll_sorted l).imp (fun h => Int.le_of_lt h)) ((List.mergeSort_perm l _).trans (putAll_perm l h).symm)
theorem sort_Ints_eq (l : List Int) (h : l.length ≤ 1048576) : sort_Ints.f l = some (l.mergeSort fun x y => decide (x ≤ y)) := by
  unfold sort_Ints.f
  rw [if_pos (Nat.lt_of_le_of_lt h (by decide))]
theorem clone_int_eq (l : List Int) (hl : l.length ≤ 1048576) : clone_int.f l = some l := by
  unfold clone_int.f
  rw [Option.bind_some, List.nil_append, if_pos (by rw [List.length_nil]; omega)]
theorem compact_props (d : Array Int) (h : ∀ i j : Nat, i < j → j < d.size → d[i]! ≤ d[j]!) (m : Nat) (hm : m ≤ d.size) : (Lib.compactUpTo d m).Pairwise (· < ·) ∧ ∀ y, y ∈ Lib.compactUpTo d m ↔ ∃ j, j < m ∧ d[j]! = y := by
  induction m with
  | zero => exact ⟨by simp [Lib.compactUpTo], fun y => by simp [Lib.compactUpTo]⟩
  | succ m ih =>
    obtain ⟨h1, h2⟩ := ih (by omega)
    rw [Lib.compactUpTo_succ]
    by_cases hk : Lib.keeps d m = true
    · rw [if_pos hk]
      have hk2 : m = 0 ∨ d[m]! ≠ d[m - 1]! := by unfold Lib.keeps at hk; exact of_decide_eq_true hk
      refine ⟨List.pairwise_append.2 ⟨h1, by simp, fun a ha b hb => ?_⟩, fun y => ?_⟩
      · obtain ⟨j, hj, e⟩ := (h2 a).1 ha
        have hb' := List.mem_singleton.1 hb
        rcases hk2 with hk2 | hk2
        · omega
        · have g1 : d[m - 1]! ≤ d[m]! := h (m - 1) m (by omega) (by omega)
          have g2 : d[j]! ≤ d[m - 1]! := by
            by_cases e2 : j = m - 1
            · rw [e2]; exact Int.le_refl _
            · exact h j (m - 1) (by omega) (by omega)
          rw [hb', ← e]
          omega
      · rw [List.mem_append, h2, List.mem_singleton]
        constructor
        · rintro (⟨j, hj, e⟩ | e)
          · exact ⟨j, by omega, e⟩
          · exact ⟨m, by omega, e.symm⟩
        · rintro ⟨j, hj, e⟩
          by_cases e2 : j = m
          · exact .inr (by rw [← e, e2])
          · exact .inl ⟨j, by omega, e⟩
    · rw [if_neg hk, List.append_nil]
      have hk2 : m ≠ 0 ∧ d[m]! = d[m - 1]! := by
        unfold Lib.keeps at hk
        have := fun hh => hk (decide_eq_true hh)
        exact ⟨fun e => this (.inl e), Classical.byContradiction fun e => this (.inr e)⟩
      refine ⟨h1, fun y => ?_⟩
      rw [h2]
      constructor
      · rintro ⟨j, hj, e⟩; exact ⟨j, by omega, e⟩
      · rintro ⟨j, hj, e⟩
        by_cases e2 : j = m
        · exact ⟨m - 1, by omega, by rw [← hk2.2, ← e2, e]⟩
        · exact ⟨j, by omega, e⟩
theorem strict_unique (l m : List Int) (h1 : l.Pairwise (· < ·)) (h2 : m.Pairwise (· < ·)) (h : ∀ y, y ∈ l ↔ y ∈ m) : l = m := by
  have n1 : l.Nodup := h1.imp (fun h => by omega)
  have n2 : m.Nodup := h2.imp (fun h => by omega)
  exact sorted_unique l m (h1.imp (fun h => Int.le_of_lt h)) (h2.imp (fun h => Int.le_of_lt h)) ((List.perm_ext_iff_of_nodup n1 n2).2 h)
theorem compact_sortI (l : List Int) : Lib.compact (l.mergeSort fun x y => decide (x ≤ y)) = putAll l := by
  obtain ⟨s, hs⟩ : ∃ s, s = l.mergeSort fun x y => decide (x ≤ y) := ⟨_, rfl⟩
  have hsort := sortI_sorted l
  have hmem : ∀ y, y ∈ s ↔ y ∈ l := fun y => by rw [hs]; exact (List.mergeSort_perm l _).mem_iff
  rw [← hs] at hsort ⊢
  have at_ : ∀ j, (h : j < s.length) → s.toArray[j]! = s[j] := fun j h => by simp [h]
  have hp := compact_props s.toArray (fun i j hij hj => by
    have hj' : j < s.length := by simpa using hj
    rw [at_ i (by omega), at_ j hj']
    exact List.pairwise_iff_getElem.1 hsort i j (by omega) hj' hij) s.length (by simp)
  refine strict_unique _ _ hp.1 (putAll_sorted l) (fun y => ?_)
  rw [putAll_mem, ← hmem]
  refine (hp.2 y).trans ?_
  rw [List.mem_iff_getElem]
  constructor
  · rintro ⟨j, hj, e⟩; exact ⟨j, hj, by rw [← at_ j hj, e]⟩
  · rintro ⟨j, hj, e⟩; exact ⟨j, hj, by rw [at_ j hj, e]⟩
theorem sortedSet_eq (l : List Int) (hl : l.length ≤ 1048576) : impl_sortedSet.f l = some (putAll l) := by
  have h2 : (l.mergeSort fun x y => decide (x ≤ y)).length = l.length := List.length_mergeSort _
  unfold impl_sortedSet.f
  rw [clone_int_eq l hl, Option.bind_some, sort_Ints_eq l hl, Option.bind_some]
  unfold compact_int.f
  rw [if_pos (by omega), Option.bind_some, compact_sortI]
theorem putAll_len (l : List Int) : (putAll l).length ≤ l.length := by
  rw [← compact_sortI]
  exact Nat.le_trans (Lib.compact_length_le _) (Nat.le_of_eq (List.length_mergeSort _))
theorem putAll_strict (l : List Int) (h : l.Pairwise (· < ·)) : putAll l = l := strict_unique _ _ (putAll_sorted l) h (putAll_mem l)
def misI (p : List Int) (l : List S80) : Nat → List Int
  | 0 => []
  | i + 1 => if (rd_T80 l i).f0 ∈ p then misI p l i else misI p l i ++ [(rd_T80 l i).f0]
theorem misI_len (p : List Int) (l : List S80) (i : Nat) : (misI p l i).length ≤ i := by
  induction i with
  | zero => simp [misI]
  | succ i ih => unfold misI; split <;> (try rw [List.length_append, List.length_singleton]) <;> omega
theorem misI_put (p : List Int) (l : List S80) (i : Nat) : putAll (misI p l i) = misUpto p l i := by
  induction i with
  | zero => rfl
  | succ i ih =>
    unfold misI misUpto
    split
    · exact ih
    · rw [putAll_append, ih]
theorem implMis_tot (p : List Int) (a : Int) (l : List S80) (hp : p.length ≤ 1048576) (hl : l.length ≤ 1048576) : Tot (fun k => impl_MissingPitches.l0 k [] l (l.length : Int) 0 p a) (fun r => r = (misUpto p l l.length, true)) := by
  refine trec (σ := Nat) (fun i k => impl_MissingPitches.l0 k (misI p l i) l (l.length : Int) (i : Int) p a) (fun i => l.length - i) (fun i => i ≤ l.length) (fun _ r => r = (misUpto p l l.length, true)) ?_ 0 (Nat.zero_le _)
  intro i hi ih
  have hlen := misI_len p l i
  simp only [impl_MissingPitches.l0, wrap64_id (x := (i : Int) + 1) (by omega) (by omega)]
  refine tite (fun c => ?_) (fun c => ?_)
  · have next := ih (i + 1) (by omega) (by omega)
    refine tpos (by omega) (tpos c ?_)
    refine tbind (contains_tot p _ hp) (fun b hb => ?_)
    refine tite (fun c2 => ?_) (fun c2 => tpos (Nat.lt_of_le_of_lt hlen (by omega)) ?_)
    · rw [show misI p l (i + 1) = misI p l i by conv => lhs; unfold misI; rw [if_pos (hb.1 c2)]] at next
      simpa using next
    · rw [show misI p l (i + 1) = misI p l i ++ [(rd_T80 l i).f0] by conv => lhs; unfold misI; rw [if_neg (fun h => c2 (hb.2 h))]] at next
      simpa using next
  · obtain rfl : i = l.length := by omega
    rw [sortedSet_eq _ (by omega), misI_put]
    exact tlet (tsome rfl)
theorem missing_agree (p : List Int) (a : Int) (l : List S80) (hp : p.length ≤ 1048576) (hl : l.length ≤ 1048576) : ∃ r, Tot (fun k => spec_MissingPitches.f k p a l) (fun y => y = r) ∧ Tot (fun k => impl_MissingPitches.f k p a l) (fun y => y = r) ∧ r.1.length ≤ 1048576 := by
  have iF : Tot (fun k => impl_MissingPitches.j0 k l true p a) (fun y => y = ([], false)) := by
    refine tstep ?_
    simp only [impl_MissingPitches.j0, if_true]
    exact tsome rfl
  by_cases hg : InGood p a ∧ ntGood l
  · refine ⟨(misUpto p l l.length, true), ?_, ?_, ?_⟩
    · unfold spec_MissingPitches.f
      refine tbind (inAsked_tot p a l hp hl) (fun x hx => tpos (hx.2 hg) ?_)
      exact tbind (inMissing_tot p a l hp hl) (fun _ e => by subst e; exact tsome rfl)
    · unfold impl_MissingPitches.f
      refine tbind (isInstrument_tot p a hp) (fun x hx => tpos (hx.2 hg.1) ?_)
      refine tbind (isScore_tot l hl) (fun y hy => ?_)
      rw [hy.2 hg.2, Bool.not_true]
      refine tstep ?_
      simp only [impl_MissingPitches.j0]
      exact tneg (by simp) (implMis_tot p a l hp hl)
    · have := misUpto_len p l l.length
      dsimp only
      omega
  · refine ⟨([], false), ?_, ?_, by simp⟩
    · unfold spec_MissingPitches.f
      exact tbind (inAsked_tot p a l hp hl) (fun x hx => tneg (fun h => hg (hx.1 h)) (tsome rfl))
    · unfold impl_MissingPitches.f
      refine tbind (isInstrument_tot p a hp) (fun x hx => tite (fun c => ?_) (fun c => iF))
      refine tbind (isScore_tot l hl) (fun y hy => ?_)
      rw [show y = false from Bool.eq_false_iff.2 (fun h => hg ⟨hx.1 c, hy.1 h⟩), Bool.not_false]
      exact iF
theorem FnExactMissingPitches (l0_0 : List Int) (a0_1 : Int) (l1 : List (S104)) (hm0_0 : l0_0.length ≤ 9223372036854775807) (hw0_0 : ∀ y ∈ l0_0, Glue.wf64 y) (w0_1 : Glue.wf64 a0_1) (hm1 : l1.length ≤ 9223372036854775807) (hw1 : ∀ y ∈ l1, Glue.wf64 y.f0 ∧ Glue.wf64 y.f1 ∧ Glue.wf64 y.f2) : ∃ k, laws_FnExactMissingPitches.f k l0_0 a0_1 l1 = some true := by
  refine rounds ?_
  unfold laws_FnExactMissingPitches.f
  rw [szInstrument l0_0 a0_1 (1048576 : Int) (by omega) (by omega) hm0_0]
  simp only [Option.bind_some]
  by_cases hl0 : (1048576 : Int) < (l0_0.length : Int)
  · simp only [if_pos hl0]; exact tpos (by omega) (tsome rfl)
  simp only [if_neg hl0]
  refine tneg (by omega) ?_
  rw [szNoteS l1 ((1048576 : Int) - (l0_0.length : Int)) (by omega) (by omega) hm1]
  simp only [Option.bind_some]
  by_cases hl1 : ((1048576 : Int) - (l0_0.length : Int)) < (l1.length : Int)
  · simp only [if_pos hl1]; exact tpos (by omega) (tsome rfl)
  simp only [if_neg hl1]
  refine tneg (by omega) ?_
  obtain ⟨r, hS, hI, hR⟩ := missing_agree l0_0 a0_1 (l1.map cvNote) (by omega) (by simp; omega)
  repeat first
    | exact tsome rfl
    | (refine tbind hS (fun _ e => ?_); subst e)
    | (refine tbind hI (fun _ e => ?_); subst e)
    | (refine tbind (toInstrument l0_0 a0_1 (by omega)) (fun _ e => ?_); subst e)
    | (refine tbind (eqInstrument _ _ (by first | omega | (dsimp only; omega) | (simp; omega) | assumption)) (fun _ e => ?_); subst e)
    | (refine tbind (toNoteS l1 (by omega)) (fun _ e => ?_); subst e)
    | (refine tbind (eqNoteS _ (by first | omega | (dsimp only; omega) | (simp; omega) | assumption)) (fun _ e => ?_); subst e)
    | (refine tbind (eqIntS _ (by first | assumption | omega | (dsimp only; omega) | (simp; omega))) (fun _ e => ?_); subst e)
    | (refine tbind (markIntS _ 1 (by first | assumption | omega | (dsimp only; omega) | (simp; omega)) (by omega) (by omega)) (fun _ e => ?_); subst e)
    | (refine tbind (heldIntS 1 _ (by first | omega | (simp; omega)) (by omega) (by omega)) (fun _ e => ?_); subst e)
    | (refine tbind (markInstrument _ _ _ (by first | omega | (simp; omega)) (by first | omega | (dsimp only; omega)) (by first | omega | (dsimp only; omega))) (fun _ e => ?_); subst e)
    | (refine tbind (markNoteS _ _ (by first | omega | (simp; omega)) (by omega) (by omega)) (fun _ e => ?_); subst e)
    | refine tpos rfl ?_
    | refine tneg (by dsimp only; omega) ?_
    | refine tneg (by omega) ?_
    | refine tneg (by simp; done) ?_
    | refine tpos (by dsimp only) ?_
    | (refine tstep ?_; simp only [laws_FnExactMissingPitches.j0])
    | (refine tstep ?_; simp only [laws_FnExactMissingPitches.j1])
    | (refine tstep ?_; simp only [laws_FnExactMissingPitches.j2])
end Go.Proofs.Ytgeipgflhjakjaa.Pure
