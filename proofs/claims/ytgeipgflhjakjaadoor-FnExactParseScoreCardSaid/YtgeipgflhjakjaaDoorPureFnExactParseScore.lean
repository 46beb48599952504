/- The plain side of the law FnExactParseScore: lists and numbers alone. -/
import Derived.Test.YtgeipgflhjakjaaDoorPFnExactParseScorex9
import Derived.Test.YtgeipgflhjakjaaDoorGlue
import Derived.Test.YtgeipgflhjakjaaDoorTot
set_option linter.unusedVariables false
set_option linter.unusedSimpArgs false
namespace Go.Proofs.YtgeipgflhjakjaaDoor.Pure
open Go.RowKit Go.Proofs.YtgeipgflhjakjaaDoor.PFnExactParseScore Go.Proofs.YtgeipgflhjakjaaDoorW.PrintWords Go.Proofs.YtgeipgflhjakjaaDoorW.PrintMore Go.Proofs.YtgeipgflhjakjaaDoor.Tot

theorem l1In_eq (a b c : Int) : spec_l1In.f a b c = some (decide (b ≤ a ∧ a ≤ c)) := by
  unfold spec_l1In.f
  by_cases h : b ≤ a <;> simp [h]

theorem eqNoteS (l : List S54) (hl : l.length ≤ 1048576) : Tot (fun k => laws_eqNoteS.f k l l) (fun r => r = true) := by
  unfold laws_eqNoteS.f
  refine tpos rfl ?_
  refine trec (σ := Int) (fun i k => laws_eqNoteS.l0 k l l i) (fun i => ((l.length : Int) - i).toNat) (fun i => 0 ≤ i ∧ i ≤ (l.length : Int)) (fun _ r => r = true) ?_ 0 ⟨Int.le_refl _, by omega⟩
  rintro i ⟨h0, h1⟩ ih
  simp only [laws_eqNoteS.l0, laws_eqNote.f, if_true, Option.bind_some]
  refine tite (fun c => ?_) (fun c => tsome rfl)
  refine tpos h0 (tpos (by omega) ?_)
  rw [wrap64_id (by omega) (by omega)]
  exact ih (i + 1) ⟨by omega, by omega⟩ (by (try dsimp only); omega)

abbrev OkNote (a b c : Int) : Prop := 24 ≤ a ∧ a ≤ 96 ∧ 0 ≤ b ∧ b ≤ 999 ∧ 1 ≤ c ∧ c ≤ 99
theorem ntNote_eq (a b c : Int) : spec_ntNote.f a b c = some (decide (OkNote a b c)) := by
  unfold spec_ntNote.f spec_ntPitch.f OkNote
  simp only [l1In_eq, Option.bind_some, decide_eq_true_eq]
  split
  · split
    · congr 1; rw [Bool.eq_iff_iff]; simp only [decide_eq_true_eq]; omega
    · congr 1; rw [Bool.eq_iff_iff]; simp only [decide_eq_true_eq]; simp; omega
  · congr 1; rw [Bool.eq_iff_iff]; simp only [decide_eq_true_eq]; simp; omega
theorem implIsNote_eq (a b c : Int) : impl_IsNote.f a b c = some (decide (OkNote a b c)) := by
  unfold impl_IsNote.f OkNote
  by_cases h1 : 24 ≤ a <;> by_cases h2 : a ≤ 96 <;> by_cases h3 : 0 ≤ b <;> by_cases h4 : b ≤ 999 <;> by_cases h5 : 1 ≤ c <;> simp [h1, h2, h3, h4, h5] <;> omega

def ntLess (x y : S54) : Prop := x.f1 < y.f1 ∨ (x.f1 = y.f1 ∧ x.f0 < y.f0)
def ntMeet (x y : S54) : Prop := x.f0 = y.f0 ∧ y.f1 < x.f1 + x.f2
def ntA (l : List S54) (j : Int) : Prop := OkNote (rd_T54 l j).f0 (rd_T54 l j).f1 (rd_T54 l j).f2 ∧ (0 < j → ntLess (rd_T54 l (j - 1)) (rd_T54 l j))
def ntC (l : List S54) (j : Int) : Prop := OkNote (rd_T54 l j).f0 (rd_T54 l j).f1 (rd_T54 l j).f2 ∧ (0 < j → ntLess (rd_T54 l (j - 1)) (rd_T54 l j)) ∧ (∀ p : Int, 0 ≤ p → p < j → ¬ ntMeet (rd_T54 l p) (rd_T54 l j))
theorem nt_take (l : List S54) (i p : Int) (h0 : 0 ≤ p) (h : p < i) : rd_T54 (l.take i.toNat) p = rd_T54 l p := by
  unfold rd_T54
  exact ld_take i.toNat p h0 (by omega)
theorem nt_start (l : List S54) (i : Int) (hp : ∀ j : Int, 0 ≤ j → j < i → ntC l j) (hi : 0 < i → ntLess (rd_T54 l (i - 1)) (rd_T54 l i)) (p : Int) (p0 : 0 ≤ p) (p1 : p < i) : (rd_T54 l p).f1 ≤ (rd_T54 l i).f1 := by
  have key : ∀ (d : Nat) (j : Int), j = p + d → j ≤ i → (rd_T54 l p).f1 ≤ (rd_T54 l j).f1 := by
    intro d
    induction d with
    | zero => intro j e _; rw [show j = p by omega]; exact Int.le_refl _
    | succ d ih =>
      intro j e h
      have h1 := ih (j - 1) (by omega) (by omega)
      have h2 : ntLess (rd_T54 l (j - 1)) (rd_T54 l j) := by
        by_cases e2 : j = i
        · rw [e2]; exact hi (by omega)
        · exact (hp j (by omega) (by omega)).2.1 (by omega)
      unfold ntLess at h2
      omega
  exact key (i - p).toNat i (by omega) (Int.le_refl _)

def ntGood (l : List S54) : Prop := (∀ j : Int, 0 ≤ j → j < (l.length : Int) → ntC l j) ∧ (l.length : Int) ≤ 30
theorem ntBefore_eq (a b c d e f : Int) : spec_ntBefore.f a b c d e f = some (decide (b < e ∨ (b = e ∧ a < d))) := by
  unfold spec_ntBefore.f
  by_cases h1 : b < e <;> by_cases h2 : b = e <;> simp [h1, h2]
theorem noteLess_eq (a b c d e f : Int) : impl_noteLess.f a b c d e f = some (decide (b < e ∨ (b = e ∧ a < d))) := by
  unfold impl_noteLess.f
  by_cases h2 : b = e
  · subst h2; simp
  · simp [h2]
theorem ntMeet_eq (a b c d e f : Int) (h : OkNote a b c) (g : OkNote d e f) : spec_ntMeet.f a b c d e f = some (decide (a = d ∧ b < e + f ∧ e < b + c)) := by
  unfold spec_ntMeet.f
  unfold OkNote at h g
  rw [wrap64_id (x := e + f) (by omega) (by omega), wrap64_id (x := b + c) (by omega) (by omega)]
  by_cases h1 : a = d <;> by_cases h2 : b < e + f <;> simp [h1, h2]
theorem noteEnd_eq (a b c : Int) (h : OkNote a b c) : impl_noteEnd.f a b c = some (b + c) := by
  unfold impl_noteEnd.f
  unfold OkNote at h
  rw [wrap64_id (by omega) (by omega)]

theorem nt_spec_ntGood_loop (l : List S54) (hl : l.length ≤ 1048576) : Tot (fun k => spec_ntGood.l0 k l l (l.length : Int) 0) (fun b => (b = true) ↔ ((∀ j : Int, 0 ≤ j → j < (l.length : Int) → ntC l j) ∧ (l.length : Int) ≤ 30)) := by
  refine trec (σ := Int) (fun i k => spec_ntGood.l0 k l l (l.length : Int) i) (fun i => ((l.length : Int) - i).toNat) (fun i => 0 ≤ i ∧ i ≤ (l.length : Int) ∧ ∀ j : Int, 0 ≤ j → j < i → ntC l j)
    (fun i b => (b = true) ↔ ((∀ j : Int, i ≤ j → j < (l.length : Int) → ntC l j) ∧ (l.length : Int) ≤ 30)) ?_ 0 ⟨Int.le_refl _, by omega, fun j a b => by omega⟩
  rintro i ⟨h0, h1, hp⟩ ih
  have hno : i < (l.length : Int) → ¬ ntC l i → Tot (fun _ => some false) (fun b => (b = true) ↔ ((∀ j : Int, i ≤ j → j < (l.length : Int) → ntC l j) ∧ (l.length : Int) ≤ 30)) := fun a b => tsome (all_no a b)
  have hjT : i < (l.length : Int) → ¬ ntA l i → Tot (fun k => spec_ntGood.j1 k l i l (l.length : Int) i true (rd_T54 l i).f0 (rd_T54 l i).f1 (rd_T54 l i).f2) (fun b => (b = true) ↔ ((∀ j : Int, i ≤ j → j < (l.length : Int) → ntC l j) ∧ (l.length : Int) ≤ 30)) := by
    intro a b
    refine tstep ?_
    simp only [spec_ntGood.j1, if_true]
    exact hno a (fun h => b ⟨h.1, h.2.1⟩)
  have hjF : i < (l.length : Int) → ntA l i → Tot (fun k => spec_ntGood.j1 k l i l (l.length : Int) i false (rd_T54 l i).f0 (rd_T54 l i).f1 (rd_T54 l i).f2) (fun b => (b = true) ↔ ((∀ j : Int, i ≤ j → j < (l.length : Int) → ntC l j) ∧ (l.length : Int) ≤ 30)) := by
    intro a hA
    refine tstep ?_
    simp only [spec_ntGood.j1, Option.bind_some]
    refine tneg (by simp) (tpos h0 (tpos h1 ?_))
    have hlen : ((l.take i.toNat).length : Int) = i := by simp; omega
    rw [hlen]
    refine trec (σ := Int) (fun p k => spec_ntGood.l1 k l l (l.length : Int) i (l.take i.toNat) i p (rd_T54 l i).f0 (rd_T54 l i).f1 (rd_T54 l i).f2) (fun p => (i - p).toNat) (fun p => 0 ≤ p ∧ p ≤ i ∧ ∀ q : Int, 0 ≤ q → q < p → ¬ ntMeet (rd_T54 l q) (rd_T54 l i))
      (fun _ => (fun b => (b = true) ↔ ((∀ j : Int, i ≤ j → j < (l.length : Int) → ntC l j) ∧ (l.length : Int) ≤ 30))) ?_ 0 ⟨Int.le_refl _, h0, fun q a b => by omega⟩
    rintro p ⟨p0, p1, pq⟩ ihp
    simp only [spec_ntGood.l1, hlen, wrap64_id (show -9223372036854775808 ≤ i + 1 by omega) (by omega), wrap64_id (show -9223372036854775808 ≤ p + 1 by omega) (by omega)]
    refine tite (fun c => ?_) (fun c => ?_)
    · refine tpos p0 (tpos c ?_)
      simp only [nt_take l i p p0 c]
      have hs := nt_start l i hp hA.2 p p0 c
      have o1 := (hp p p0 c).1
      have o2 := hA.1
      simp only [ntMeet_eq _ _ _ _ _ _ o2 o1, Option.bind_some, decide_eq_true_eq]
      unfold OkNote at o1 o2
      have go : ¬ ntMeet (rd_T54 l p) (rd_T54 l i) → Tot (fun k => spec_ntGood.l1 k l l (l.length : Int) i (l.take i.toNat) i (p + 1) (rd_T54 l i).f0 (rd_T54 l i).f1 (rd_T54 l i).f2) (fun b => (b = true) ↔ ((∀ j : Int, i ≤ j → j < (l.length : Int) → ntC l j) ∧ (l.length : Int) ≤ 30)) := fun hm =>
        ihp (p + 1) ⟨by omega, by omega, fun q q0 q1 => by
          by_cases e : q = p
          · rw [e]; exact hm
          · exact pq q q0 (by omega)⟩ (by (try dsimp only); omega)
      repeat' (refine tite (fun _ => ?_) (fun _ => ?_))
      all_goals first
        | exact go (by unfold ntMeet; omega)
        | exact hno a (fun h => h.2.2 p p0 c (by unfold ntMeet; omega))
    · have Ci : ntC l i := ⟨hA.1, hA.2, fun q q0 q1 => pq q q0 (by omega)⟩
      exact tmono (ih (i + 1) ⟨by omega, by omega, fun j j0 j1 => by
        by_cases e : j = i
        · rw [e]; exact Ci
        · exact hp j j0 (by omega)⟩ (by (try dsimp only); omega)) (fun b hb => all_go a Ci hb)
  simp only [spec_ntGood.l0, ntNote_eq, ntBefore_eq, Option.bind_some, decide_eq_true_eq]
  simp only [show wrap64 (i - 1) = i - 1 from wrap64_id (by omega) (by omega)]
  by_cases hL : ntLess (rd_T54 l (i - 1)) (rd_T54 l i)
  all_goals
    have hL2 := hL
    unfold ntLess at hL2
    simp only [hL2, decide_true, decide_false, Bool.not_true, Bool.not_false]
    repeat' (refine tite (fun _ => ?_) (fun _ => ?_))
    all_goals first
      | (exfalso; omega)
      | exact hjF (by omega) ⟨by assumption, fun _ => hL⟩
      | exact hjF (by omega) ⟨by assumption, fun h => absurd h (by omega)⟩
      | exact hjT (by omega) (fun h => absurd h.1 (by assumption))
      | exact hjT (by omega) (fun h => absurd (h.2 (by omega)) hL)
      | exact tsome (all_end (by omega) (by simp only [decide_eq_true_eq]))

theorem nt_impl_IsScore_loop (l : List S54) (hl : l.length ≤ 1048576) : Tot (fun k => impl_IsScore.l0 k l l (l.length : Int) 0) (fun b => (b = true) ↔ ((∀ j : Int, 0 ≤ j → j < (l.length : Int) → ntC l j) ∧ True)) := by
  refine trec (σ := Int) (fun i k => impl_IsScore.l0 k l l (l.length : Int) i) (fun i => ((l.length : Int) - i).toNat) (fun i => 0 ≤ i ∧ i ≤ (l.length : Int) ∧ ∀ j : Int, 0 ≤ j → j < i → ntC l j)
    (fun i b => (b = true) ↔ ((∀ j : Int, i ≤ j → j < (l.length : Int) → ntC l j) ∧ True)) ?_ 0 ⟨Int.le_refl _, by omega, fun j a b => by omega⟩
  rintro i ⟨h0, h1, hp⟩ ih
  have hno : i < (l.length : Int) → ¬ ntC l i → Tot (fun _ => some false) (fun b => (b = true) ↔ ((∀ j : Int, i ≤ j → j < (l.length : Int) → ntC l j) ∧ True)) := fun a b => tsome (all_no a b)
  have hjT : i < (l.length : Int) → ¬ ntA l i → Tot (fun k => impl_IsScore.j1 k l i l (l.length : Int) i true (rd_T54 l i).f0 (rd_T54 l i).f1 (rd_T54 l i).f2) (fun b => (b = true) ↔ ((∀ j : Int, i ≤ j → j < (l.length : Int) → ntC l j) ∧ True)) := by
    intro a b
    refine tstep ?_
    simp only [impl_IsScore.j1, if_true]
    exact hno a (fun h => b ⟨h.1, h.2.1⟩)
  have hjF : i < (l.length : Int) → ntA l i → Tot (fun k => impl_IsScore.j1 k l i l (l.length : Int) i false (rd_T54 l i).f0 (rd_T54 l i).f1 (rd_T54 l i).f2) (fun b => (b = true) ↔ ((∀ j : Int, i ≤ j → j < (l.length : Int) → ntC l j) ∧ True)) := by
    intro a hA
    refine tstep ?_
    simp only [impl_IsScore.j1, Option.bind_some]
    refine tneg (by simp) (tpos h0 (tpos h1 ?_))
    have hlen : ((l.take i.toNat).length : Int) = i := by simp; omega
    rw [hlen]
    refine trec (σ := Int) (fun p k => impl_IsScore.l1 k l l (l.length : Int) i (l.take i.toNat) i p (rd_T54 l i).f0 (rd_T54 l i).f1 (rd_T54 l i).f2) (fun p => (i - p).toNat) (fun p => 0 ≤ p ∧ p ≤ i ∧ ∀ q : Int, 0 ≤ q → q < p → ¬ ntMeet (rd_T54 l q) (rd_T54 l i))
      (fun _ => (fun b => (b = true) ↔ ((∀ j : Int, i ≤ j → j < (l.length : Int) → ntC l j) ∧ True))) ?_ 0 ⟨Int.le_refl _, h0, fun q a b => by omega⟩
    rintro p ⟨p0, p1, pq⟩ ihp
    simp only [impl_IsScore.l1, hlen, wrap64_id (show -9223372036854775808 ≤ i + 1 by omega) (by omega), wrap64_id (show -9223372036854775808 ≤ p + 1 by omega) (by omega)]
    refine tite (fun c => ?_) (fun c => ?_)
    · refine tpos p0 (tpos c ?_)
      simp only [nt_take l i p p0 c]
      have hs := nt_start l i hp hA.2 p p0 c
      have o1 := (hp p p0 c).1
      have o2 := hA.1
      simp only [noteEnd_eq _ _ _ o1, Option.bind_some]
      unfold OkNote at o1 o2
      have go : ¬ ntMeet (rd_T54 l p) (rd_T54 l i) → Tot (fun k => impl_IsScore.l1 k l l (l.length : Int) i (l.take i.toNat) i (p + 1) (rd_T54 l i).f0 (rd_T54 l i).f1 (rd_T54 l i).f2) (fun b => (b = true) ↔ ((∀ j : Int, i ≤ j → j < (l.length : Int) → ntC l j) ∧ True)) := fun hm =>
        ihp (p + 1) ⟨by omega, by omega, fun q q0 q1 => by
          by_cases e : q = p
          · rw [e]; exact hm
          · exact pq q q0 (by omega)⟩ (by (try dsimp only); omega)
      repeat' (refine tite (fun _ => ?_) (fun _ => ?_))
      all_goals first
        | exact go (by unfold ntMeet; omega)
        | exact hno a (fun h => h.2.2 p p0 c (by unfold ntMeet; omega))
    · have Ci : ntC l i := ⟨hA.1, hA.2, fun q q0 q1 => pq q q0 (by omega)⟩
      exact tmono (ih (i + 1) ⟨by omega, by omega, fun j j0 j1 => by
        by_cases e : j = i
        · rw [e]; exact Ci
        · exact hp j j0 (by omega)⟩ (by (try dsimp only); omega)) (fun b hb => all_go a Ci hb)
  simp only [impl_IsScore.l0, implIsNote_eq, noteLess_eq, Option.bind_some, decide_eq_true_eq]
  simp only [show wrap64 (i - 1) = i - 1 from wrap64_id (by omega) (by omega)]
  by_cases hL : ntLess (rd_T54 l (i - 1)) (rd_T54 l i)
  all_goals
    have hL2 := hL
    unfold ntLess at hL2
    simp only [hL2, decide_true, decide_false, Bool.not_true, Bool.not_false]
    repeat' (refine tite (fun _ => ?_) (fun _ => ?_))
    all_goals first
      | (exfalso; omega)
      | exact hjF (by omega) ⟨by assumption, fun _ => hL⟩
      | exact hjF (by omega) ⟨by assumption, fun h => absurd h (by omega)⟩
      | exact hjT (by omega) (fun h => absurd h.1 (by assumption))
      | exact hjT (by omega) (fun h => absurd (h.2 (by omega)) hL)
      | exact tsome (all_end (by omega) (by simp))

theorem ntGood_tot (l : List S54) (hl : l.length ≤ 1048576) : Tot (fun k => spec_ntGood.f k l) (fun b => (b = true) ↔ ntGood l) := by
  unfold spec_ntGood.f
  exact nt_spec_ntGood_loop l hl
theorem isScore_tot (l : List S54) (hl : l.length ≤ 1048576) : Tot (fun k => impl_IsScore.f k l) (fun b => (b = true) ↔ ntGood l) := by
  unfold impl_IsScore.f ntGood
  refine tite (fun c => tsome ⟨(fun h => by simp at h), (fun h => by have := h.2; omega)⟩) (fun c => ?_)
  refine tmono (nt_impl_IsScore_loop l hl) (fun b hb => ?_)
  rw [hb]
  exact ⟨fun h => ⟨h.1, by omega⟩, fun h => ⟨h.1, trivial⟩⟩

def mkNote (j : Int) (n : Nat) : List S54 := (List.range n).map fun i : Nat => (⟨j + 3 * (i : Int) + 0, j + 3 * (i : Int) + 1, j + 3 * (i : Int) + 2⟩ : S54)
theorem mkNote_at (j : Int) (n : Nat) (i : Int) (h0 : 0 ≤ i) (h : i < n) : rd_T54 (mkNote j n) i = ⟨j + 3 * i + 0, j + 3 * i + 1, j + 3 * i + 2⟩ := by
  obtain ⟨m, rfl⟩ := Int.eq_ofNat_of_zero_le h0
  have hm : m < n := by omega
  unfold rd_T54 mkNote
  simp [List.getD, hm]
theorem markNoteS (l : List S54) (j : Int) (hl : l.length ≤ 1048576) (hj : 0 ≤ j) (hj2 : j ≤ 1125899906842624) : Tot (fun k => laws_markNoteS.f k l j) (fun r => r = (j + 3 * (l.length : Int), mkNote j l.length)) := by
  unfold laws_markNoteS.f
  have key := trec (σ := List S54 × Int) (fun s k => laws_markNoteS.l0 k s.1 (j + 3 * s.2) s.2) (fun s => ((l.length : Int) - s.2).toNat)
    (fun s => 0 ≤ s.2 ∧ s.2 ≤ (l.length : Int) ∧ s.1.length = l.length ∧ ∀ i : Int, 0 ≤ i → i < s.2 → rd_T54 s.1 i = rd_T54 (mkNote j l.length) i) (fun _ r => r = (j + 3 * (l.length : Int), mkNote j l.length)) ?_
  · have h := key (l, 0) ⟨Int.le_refl _, by dsimp only; omega, rfl, fun i h0 h1 => by dsimp only at h1; omega⟩
    simpa using h
  · rintro ⟨ys, i⟩ ⟨h0, h1, h2, h3⟩ ih
    dsimp only at h0 h1 h2 h3
    simp only [laws_markNoteS.l0, Option.bind_some]
    refine tite (fun c => ?_) (fun c => ?_)
    · refine tpos h0 ?_
      have hi : i.toNat < ys.length := by omega
      have e : ∀ x : S54, rd_T54 (ys.set i.toNat x) i = x := fun x => by
        unfold rd_T54; exact ld_set_self x i (by omega) h0
      simp only [e, List.set_set, wrap64_id (x := j + 3 * i + 1) (by omega) (by omega), wrap64_id (x := j + 3 * i + 1 + 1) (by omega) (by omega), wrap64_id (x := j + 3 * i + 1 + 1 + 1) (by omega) (by omega)]
      rw [show j + 3 * i + 1 + 1 + 1 = j + 3 * (i + 1) by omega, wrap64_id (x := i + 1) (by omega) (by omega)]
      refine ih (_, i + 1) ⟨by dsimp only; omega, by dsimp only; omega, by simp [h2], ?_⟩ (by dsimp only; omega)
      intro p p0 p1
      dsimp only at p1 ⊢
      by_cases ep : p = i
      · subst ep
        rw [e, mkNote_at j _ p p0 (by omega)]
        congr 1 <;> omega
      · unfold rd_T54
        rw [ld_set_ne _ _ _ h0 p0 (by omega)]
        exact h3 p p0 (by omega)
    · obtain rfl : i = (l.length : Int) := by omega
      refine tsome ?_
      congr 1
      refine ld_ext (z := z54) (by simp [mkNote, h2]) (fun p p0 p1 => ?_)
      exact h3 p p0 (by omega)

theorem heldNoteS (j : Int) (n : Nat) (hn : n ≤ 1048576) (hj : 0 ≤ j) (hj2 : j ≤ 1125899906842624) : Tot (fun k => laws_heldNoteS.f k (mkNote j n) j) (fun r => r = j + 3 * (n : Int)) := by
  unfold laws_heldNoteS.f
  have hlen : ((mkNote j n).length : Int) = n := by simp [mkNote]
  have key := trec (σ := Int) (fun i k => laws_heldNoteS.l0 k (mkNote j n) (j + 3 * i) i) (fun i => ((n : Int) - i).toNat) (fun i => 0 ≤ i ∧ i ≤ (n : Int)) (fun _ r => r = j + 3 * (n : Int)) ?_ 0 ⟨Int.le_refl _, by omega⟩
  · simpa using key
  · rintro i ⟨h0, h1⟩ ih
    simp only [laws_heldNoteS.l0, hlen]
    refine tite (fun c => ?_) (fun c => ?_)
    · refine tpos h0 ?_
      simp only [mkNote_at j n i h0 c]
      simp only [wrap64_id (x := j + 3 * i + 1) (by omega) (by omega), wrap64_id (x := j + 3 * i + 1 + 1) (by omega) (by omega), wrap64_id (x := j + 3 * i + 1 + 1 + 1) (by omega) (by omega)]
      refine tpos (by first | trivial | omega) ?_
      refine tpos (by first | trivial | omega) ?_
      refine tpos (by first | trivial | omega) ?_
      rw [show j + 3 * i + 1 + 1 + 1 = j + 3 * (i + 1) by omega, wrap64_id (x := i + 1) (by omega) (by omega)]
      exact ih (i + 1) ⟨by omega, by omega⟩ (by (try dsimp only); omega)
    · exact tsome (by omega)

theorem rd_eq (xs : List Int) (i : Int) : rd xs i = xs.getD i.toNat 0 := rfl

theorem ntPitch_eq (a : Int) : spec_ntPitch.f a = some (decide (24 ≤ a ∧ a ≤ 96)) := by
  unfold spec_ntPitch.f
  simp only [l1In_eq, Option.bind_some]

def inpl {α : Type} (f : α → α) (l : List α) (i : Nat) : List α := (l.take i).map f ++ l.drop i
theorem inpl_len {α : Type} (f : α → α) (l : List α) (i : Nat) (h : i ≤ l.length) : (inpl f l i).length = l.length := by
  unfold inpl; simp; omega
theorem inpl_zero {α : Type} (f : α → α) (l : List α) : inpl f l 0 = l := by simp [inpl]
theorem inpl_end {α : Type} (f : α → α) (l : List α) : inpl f l l.length = l.map f := by simp [inpl]
theorem inpl_at {α : Type} (z : α) (f : α → α) (l : List α) (i : Nat) (h : i < l.length) : (inpl f l i).getD i z = l.getD i z := by
  unfold inpl
  have h1 : ((l.take i).map f).length = i := by simp; omega
  rw [List.getD, List.getElem?_append_right (by omega), h1, Nat.sub_self]
  simp [List.getD, h]
theorem inpl_set {α : Type} (z : α) (f : α → α) (l : List α) (i : Nat) (h : i < l.length) : (inpl f l i).set i (f (l.getD i z)) = inpl f l (i + 1) := by
  unfold inpl
  have h1 : ((l.take i).map f).length = i := by simp; omega
  rw [List.set_append_right _ _ (by omega), h1, Nat.sub_self, List.drop_eq_getElem_cons h, List.set_cons_zero, List.take_succ_eq_append_getElem h, List.map_append, List.append_assoc]
  simp [List.getD, h]
theorem take_up {α β : Type} (z : α) (f : α → β) (l : List α) (i : Nat) (h : i < l.length) : (l.take (i + 1)).map f = (l.take i).map f ++ [f (l.getD i z)] := by
  rw [List.take_succ_eq_append_getElem h, List.map_append]
  simp [List.getD, h]

theorem scoreOf_tot (l : List S54) (hl : l.length ≤ 1048576) : Tot (fun k => impl_scoreOf.f k l) (fun r => (ntGood l ∧ r = (l, true)) ∨ (¬ ntGood l ∧ r = ([], false))) := by
  unfold impl_scoreOf.f
  exact tbind (isScore_tot l hl) (fun b hb => tite (fun c => tsome (.inl ⟨hb.1 c, rfl⟩)) (fun c => tsome (.inr ⟨fun h => c (hb.2 h), rfl⟩)))

theorem tlet {α β : Type} {v : α} {g : Nat → α → Option β} {Q : β → Prop} (h : Tot (fun k => g k v) Q) : Tot (fun k => (some v).bind fun y => g k y) Q := h
theorem take_drop_erase {α : Type} (l : List α) (m : Nat) : l.take m ++ l.drop (m + 1) = l.eraseIdx m := (List.eraseIdx_eq_take_drop_succ l m).symm
theorem wrapN1 (m : Nat) (h : m ≤ 1048576) : wrap64 ((m : Int) + 1) = ((m + 1 : Nat) : Int) := by rw [wrap64_id (by omega) (by omega)]; rfl
theorem erase_len {α : Type} (l : List α) (m : Nat) (h : l.length ≤ 1048576) : (l.eraseIdx m).length ≤ 1048576 := Nat.le_trans (List.length_eraseIdx_le l m) h

theorem tmonoEv {α : Type} {g : Nat → Option α} {r : α} (hg : ∀ k, LeO (g k) (g (k + 1))) {k : Nat} (h : g k = some r) : Tot g (fun y => y = r) := ⟨r, Ev.of hg h, rfl⟩
def decText (n : Nat) : ByteArray := ⟨(Lib.decDigits n).toArray⟩
theorem decText_small (u : Nat) (h : u < 10) : decText u = strOfNums ([(wrap64 (48 + (u : Int))) % 256] : List Int) := by
  unfold decText Lib.decDigits strOfNums
  rw [dif_pos h]
  have e : (wrap64 (48 + (u : Int))) % 256 = ((48 + u : Nat) : Int) := by unfold wrap64; omega
  rw [e]
  rfl
theorem decText_big (u : Nat) (h : ¬ u < 10) (h2 : u < 1000000000) : decText u = decText (u / 10) ++ strOfNums ([(wrap64 (48 + ((u % 10 : Nat) : Int))) % 256] : List Int) := by
  have e : (wrap64 (48 + ((u % 10 : Nat) : Int))) % 256 = ((48 + u % 10 : Nat) : Int) := by unfold wrap64; omega
  rw [e]
  have e1 : Lib.decDigits u = Lib.decDigits (u / 10) ++ [UInt8.ofNat (48 + u % 10)] := by
    conv => lhs; unfold Lib.decDigits
    rw [dif_neg h]
  unfold decText strOfNums
  rw [e1]
  apply ByteArray.ext
  simp
  rw [show (48 + (u : Int) % 10).toNat = 48 + u % 10 by omega, UInt8.ofNat_add]
  rfl
theorem decText_size (u : Nat) (h : u < 1000000000) : (decText u).size ≤ 9 ∧ 1 ≤ (decText u).size := by
  have key : ∀ (d u : Nat), u < 10 ^ (d + 1) → d ≤ 8 → (decText u).size ≤ d + 1 ∧ 1 ≤ (decText u).size := by
    intro d
    induction d with
    | zero => intro u hu _; rw [decText_small u (by omega)]; exact ⟨Nat.le_refl _, Nat.le_refl _⟩
    | succ d ih =>
      intro u hu hd
      by_cases h10 : u < 10
      · rw [decText_small u h10]
        exact ⟨by show 1 ≤ _; omega, Nat.le_refl _⟩
      · have hlt : u < 1000000000 := Nat.lt_of_lt_of_le hu (Nat.pow_le_pow_right (by omega) (show d + 1 + 1 ≤ 9 by omega))
        rw [decText_big u h10 hlt, ByteArray.size_append]
        have h1 := ih (u / 10) (by rw [Nat.pow_succ] at hu; omega) (by omega)
        have h2 : (strOfNums ([(wrap64 (48 + ((u % 10 : Nat) : Int))) % 256] : List Int)).size = 1 := rfl
        omega
  exact key 8 u (by omega) (by omega)
theorem l1Num_tot (u : Nat) (h : u < 1000000000) : Tot (fun k => spec_l1Num.f k (u : Int)) (fun r => r = decText u) := by
  induction u using Nat.strongRecOn with
  | ind u ih =>
    refine tstep ?_
    simp only [spec_l1Num.f]
    refine tite (fun c => tsome (decText_small u (by omega)).symm) (fun c => ?_)
    have e1 : wrap64 (Int.tdiv (u : Int) 10) = ((u / 10 : Nat) : Int) := by
      rw [Int.tdiv_eq_ediv_of_nonneg (by omega)]; unfold wrap64; omega
    have e2 : Int.tmod (u : Int) 10 = ((u % 10 : Nat) : Int) := by rw [Int.tmod_eq_emod_of_nonneg (by omega)]; omega
    rw [e1, e2]
    refine tbind (ih (u / 10) (by omega) (by omega)) (fun _ e => ?_); subst e
    show Tot (fun _ => if (decText (u / 10)).size + (strOfNums ([(wrap64 (48 + ((u % 10 : Nat) : Int))) % 256] : List Int)).size ≤ 9223372036854775807 then some (decText (u / 10) ++ strOfNums ([(wrap64 (48 + ((u % 10 : Nat) : Int))) % 256] : List Int)) else none) _
    have hs := (decText_size (u / 10) (by omega)).1
    have h2 : (strOfNums ([(wrap64 (48 + ((u % 10 : Nat) : Int))) % 256] : List Int)).size = 1 := rfl
    exact tpos (by omega) (tsome (decText_big u (by omega) h).symm)

def noteNames : List ByteArray := [(⟨#[99]⟩ : ByteArray), (⟨#[99, 35]⟩ : ByteArray), (⟨#[100]⟩ : ByteArray), (⟨#[100, 35]⟩ : ByteArray), (⟨#[101]⟩ : ByteArray), (⟨#[102]⟩ : ByteArray), (⟨#[102, 35]⟩ : ByteArray), (⟨#[103]⟩ : ByteArray), (⟨#[103, 35]⟩ : ByteArray), (⟨#[97]⟩ : ByteArray), (⟨#[97, 35]⟩ : ByteArray), (⟨#[98]⟩ : ByteArray)]
def pitchText (a : Int) : ByteArray := rdOf ByteArray.empty noteNames (a % 12) ++ decText (a / 12).toNat
theorem noteName_size (i : Int) (h0 : 0 ≤ i) (h1 : i < 12) : (rdOf ByteArray.empty noteNames i).size ≤ 2 ∧ 1 ≤ (rdOf ByteArray.empty noteNames i).size := by
  obtain rfl | rfl | rfl | rfl | rfl | rfl | rfl | rfl | rfl | rfl | rfl | rfl : i = 0 ∨ i = 1 ∨ i = 2 ∨ i = 3 ∨ i = 4 ∨ i = 5 ∨ i = 6 ∨ i = 7 ∨ i = 8 ∨ i = 9 ∨ i = 10 ∨ i = 11 := by omega
  all_goals decide
theorem pitchText_size (a : Int) (h0 : 24 ≤ a) (h1 : a ≤ 96) : (pitchText a).size ≤ 11 ∧ 1 ≤ (pitchText a).size := by
  unfold pitchText
  rw [ByteArray.size_append]
  have h := noteName_size (a % 12) (by omega) (by omega)
  have h2 := decText_size (a / 12).toNat (by omega)
  omega
theorem ntName_tot (a : Int) (h0 : 24 ≤ a) (h1 : a ≤ 96) : Tot (fun k => spec_ntName.f k a) (fun r => r = pitchText a) := by
  have e1 : wrap64 (Int.tdiv a 12) = (((a / 12).toNat : Nat) : Int) := by rw [Int.tdiv_eq_ediv_of_nonneg (by omega)]; unfold wrap64; omega
  have e2 : Int.tmod a 12 = a % 12 := Int.tmod_eq_emod_of_nonneg (by omega)
  unfold spec_ntName.f spec_ntNames.f
  simp only [e1, e2, Option.bind_some]
  refine tpos (by omega) (tpos (by simp; omega) ?_)
  refine tbind (l1Num_tot (a / 12).toNat (by omega)) (fun _ e => ?_); subst e
  have h := noteName_size (a % 12) (by omega) (by omega)
  have h2 := decText_size (a / 12).toNat (by omega)
  exact tpos (by unfold noteNames at h; omega) (tsome rfl)
theorem pitchName_eq (a : Int) (h0 : 24 ≤ a) (h1 : a ≤ 96) : impl_pitchName.f a = some (pitchText a) := by
  have e1 : wrap64 (Int.tdiv a 12) = (((a / 12).toNat : Nat) : Int) := by rw [Int.tdiv_eq_ediv_of_nonneg (by omega)]; unfold wrap64; omega
  have e2 : Int.tmod a 12 = a % 12 := Int.tmod_eq_emod_of_nonneg (by omega)
  unfold impl_pitchName.f itoa.f
  simp only [e1, e2, Option.bind_some]
  have h := noteName_size (a % 12) (by omega) (by omega)
  have h2 := decText_size (a / 12).toNat (by omega)
  unfold noteNames at h
  unfold decText at h2
  rw [if_pos (by omega), if_pos (by simp; omega), if_pos (by omega), if_pos (by omega)]
  simp only [Option.bind_some, Int.toNat_natCast]
  rw [if_pos (by omega)]
  rfl

theorem join_snoc (xs : List (List UInt8)) (y sep : List UInt8) (h : xs ≠ []) : Lib.join (xs ++ [y]) sep = Lib.join xs sep ++ (sep ++ y) := by
  cases xs with
  | nil => exact absurd rfl h
  | cons x r =>
    rw [List.cons_append, Lib.join_cons, Lib.join_cons, List.append_assoc]
    congr 1
    simp [Lib.joinTail]

def noteText (x : S54) : ByteArray := ((((pitchText x.f0 ++ (⟨#[32]⟩ : ByteArray)) ++ decText x.f1.toNat) ++ (⟨#[32]⟩ : ByteArray)) ++ decText x.f2.toNat) ++ (⟨#[10]⟩ : ByteArray)
def scUpto (l : List S54) : Nat → ByteArray
  | 0 => ⟨#[]⟩
  | i + 1 => scUpto l i ++ noteText (rd_T54 l i)
theorem noteText_size (l : List S54) (hg : ntGood l) (i : Nat) (h : i < l.length) : (noteText (rd_T54 l i)).size ≤ 40 := by
  have o := (hg.1 i (by omega) (by omega)).1
  unfold OkNote at o
  have n1 := (pitchText_size (rd_T54 l i).f0 (by omega) (by omega)).1
  have n2 := (decText_size (rd_T54 l i).f1.toNat (by omega)).1
  have n3 := (decText_size (rd_T54 l i).f2.toNat (by omega)).1
  have z32 : (⟨#[32]⟩ : ByteArray).size = 1 := rfl
  have z10 : (⟨#[10]⟩ : ByteArray).size = 1 := rfl
  unfold noteText
  simp only [ByteArray.size_append, z32, z10]
  omega
theorem scUpto_size (l : List S54) (hg : ntGood l) (i : Nat) (h : i ≤ l.length) : (scUpto l i).size ≤ 40 * i := by
  induction i with
  | zero => exact Nat.le_refl _
  | succ i ih =>
    have h1 := ih (by omega)
    have h2 := noteText_size l hg i (by omega)
    unfold scUpto
    rw [ByteArray.size_append]
    omega
theorem ntText_tot (l : List S54) (hg : ntGood l) : Tot (fun k => spec_ntText.f k l) (fun r => r = scUpto l l.length) := by
  have hn := hg.2
  have z32 : (⟨#[32]⟩ : ByteArray).size = 1 := rfl
  have z10 : (⟨#[10]⟩ : ByteArray).size = 1 := rfl
  unfold spec_ntText.f
  refine trec (σ := Nat) (fun i k => spec_ntText.l0 k (scUpto l i) l (l.length : Int) (i : Int)) (fun i => l.length - i) (fun i => i ≤ l.length) (fun _ r => r = scUpto l l.length) ?_ 0 (Nat.zero_le _)
  intro i hi ih
  simp only [spec_ntText.l0]
  refine tite (fun c => ?_) (fun c => ?_)
  · have o := (hg.1 i (by omega) c).1
    unfold OkNote at o
    have n1 := (pitchText_size (rd_T54 l i).f0 (by omega) (by omega)).1
    have n2 := (decText_size (rd_T54 l i).f1.toNat (by omega)).1
    have n3 := (decText_size (rd_T54 l i).f2.toNat (by omega)).1
    have hs := scUpto_size l hg i hi
    have e1 : (((rd_T54 l i).f1.toNat : Nat) : Int) = (rd_T54 l i).f1 := by omega
    have e2 : (((rd_T54 l i).f2.toNat : Nat) : Int) = (rd_T54 l i).f2 := by omega
    have t1 := l1Num_tot (rd_T54 l i).f1.toNat (by omega)
    have t2 := l1Num_tot (rd_T54 l i).f2.toNat (by omega)
    rw [e1] at t1
    rw [e2] at t2
    refine tpos (by omega) (tpos c ?_)
    refine tbind (ntName_tot _ (by omega) (by omega)) (fun _ e => ?_); subst e
    refine tpos (by omega) ?_
    refine tbind t1 (fun _ e => ?_); subst e
    refine tpos (by simp only [ByteArray.size_append, z32]; omega) (tpos (by simp only [ByteArray.size_append, z32]; omega) ?_)
    refine tbind t2 (fun _ e => ?_); subst e
    refine tpos (by simp only [ByteArray.size_append, z32]; omega) (tpos (by simp only [ByteArray.size_append, z32]; omega) (tpos (by simp only [ByteArray.size_append, z32, z10]; omega) ?_))
    rw [wrap64_id (by omega) (by omega)]
    exact ih (i + 1) (by omega) (by omega)
  · obtain rfl : i = l.length := by omega
    exact tsome rfl

def sp (c : UInt8) : List UInt8 → List (List UInt8)
  | [] => [[]]
  | b :: l => if b = c then [] :: sp c l else (b :: (sp c l).headD []) :: (sp c l).tail
theorem sp_ne (c : UInt8) (l : List UInt8) : sp c l ≠ [] := by
  cases l with
  | nil => simp [sp]
  | cons b l => unfold sp; split <;> simp
theorem sp_cons (c : UInt8) (l : List UInt8) : ∃ x r, sp c l = x :: r := by
  cases h : sp c l with
  | nil => exact absurd h (sp_ne c l)
  | cons x r => exact ⟨x, r, rfl⟩
theorem sp_join (c : UInt8) (l : List UInt8) : Lib.join (sp c l) [c] = l := by
  induction l with
  | nil => rfl
  | cons b l ih =>
    obtain ⟨x, r, e⟩ := sp_cons c l
    rw [e, Lib.join_cons] at ih
    unfold sp
    by_cases h : b = c
    · subst h
      rw [if_pos rfl, e, Lib.join_cons]
      simp only [Lib.joinTail, List.map_cons, List.flatten_cons, List.nil_append, List.cons_append] at ih ⊢
      rw [ih]
    · rw [if_neg h, e, Lib.join_cons]
      simp only [List.headD_cons, List.tail_cons, List.cons_append]
      rw [ih]
theorem sp_none (c : UInt8) (x : List UInt8) (h : c ∉ x) : sp c x = [x] := by
  induction x with
  | nil => rfl
  | cons b l ih =>
    have hb : b ≠ c := fun e => h (by simp [e])
    unfold sp
    rw [if_neg hb, ih (fun e => h (by simp [e]))]
    rfl
theorem sp_hit (c : UInt8) (x l : List UInt8) (h : c ∉ x) : sp c (x ++ c :: l) = x :: sp c l := by
  induction x with
  | nil => simp [sp]
  | cons b x ih =>
    have hb : b ≠ c := fun e => h (by simp [e])
    rw [List.cons_append]
    have ih' := ih (fun e => h (by simp [e]))
    conv => lhs; unfold sp
    rw [if_neg hb, ih']
    rfl
theorem sp_of_join (c : UInt8) (ws : List (List UInt8)) (h0 : ws ≠ []) (h : ∀ w ∈ ws, c ∉ w) : sp c (Lib.join ws [c]) = ws := by
  induction ws with
  | nil => exact absurd rfl h0
  | cons x r ih =>
    rw [Lib.join_cons]
    cases r with
    | nil => simp only [Lib.joinTail, List.map_nil, List.flatten_nil, List.append_nil]; exact sp_none c x (h x (by simp))
    | cons y r =>
      have := ih (by simp) (fun w hw => h w (List.mem_cons_of_mem _ hw))
      rw [Lib.join_cons] at this
      simp only [Lib.joinTail, List.map_cons, List.flatten_cons, List.append_assoc, List.nil_append, List.cons_append] at this ⊢
      rw [sp_hit c x _ (h x (by simp)), this]
theorem mem_sp (c : UInt8) (l : List UInt8) : ∀ w ∈ sp c l, c ∉ w := by
  induction l with
  | nil => simp [sp]
  | cons b l ih =>
    obtain ⟨x, r, e⟩ := sp_cons c l
    unfold sp
    rw [e] at ih ⊢
    by_cases h : b = c
    · rw [if_pos h]
      intro w hw
      rcases List.mem_cons.1 hw with rfl | hw
      · simp
      · exact ih w hw
    · rw [if_neg h]
      intro w hw
      simp only [List.headD_cons, List.tail_cons] at hw
      rcases List.mem_cons.1 hw with rfl | hw
      · intro hc
        rcases List.mem_cons.1 hc with e | hc
        · exact h e.symm
        · exact ih x (by simp) hc
      · exact ih w (List.mem_cons_of_mem _ hw)
theorem sp_len (c : UInt8) (l : List UInt8) : (sp c l).length ≤ l.length + 1 := by
  induction l with
  | nil => simp [sp]
  | cons b l ih =>
    obtain ⟨x, r, e⟩ := sp_cons c l
    unfold sp
    rw [e] at ih ⊢
    split <;> simp at ih ⊢ <;> omega
theorem find_c (c : UInt8) (l : List UInt8) : c ∉ l ∨ ∃ x r, c ∉ x ∧ l = x ++ c :: r := by
  induction l with
  | nil => exact .inl (by simp)
  | cons b l ih =>
    by_cases h : b = c
    · subst h; exact .inr ⟨[], l, by simp, rfl⟩
    · rcases ih with ih | ⟨x, r, h1, rfl⟩
      · exact .inl (fun hc => (List.mem_cons.1 hc).elim (fun e => h e.symm) ih)
      · exact .inr ⟨b :: x, r, fun hc => (List.mem_cons.1 hc).elim (fun e => h e.symm) h1, rfl⟩
theorem index_none1 (c : UInt8) (l : List UInt8) (h : c ∉ l) : Lib.index l [c] = -1 := by
  induction l with
  | nil => rfl
  | cons b l ih =>
    have hb : b ≠ c := fun e => h (by simp [e])
    have hp : ([c] : List UInt8).isPrefixOf (b :: l) = false := by simp [List.isPrefixOf, Ne.symm hb]
    rw [Lib.index, hp, ih (fun e => h (by simp [e]))]
    rfl
theorem index_hit1 (c : UInt8) (x r : List UInt8) (h : c ∉ x) : Lib.index (x ++ c :: r) [c] = x.length := by
  induction x with
  | nil => simp [Lib.index, List.isPrefixOf]
  | cons b x ih =>
    have hb : b ≠ c := fun e => h (by simp [e])
    have hp : ([c] : List UInt8).isPrefixOf (b :: (x ++ c :: r)) = false := by simp [List.isPrefixOf, Ne.symm hb]
    rw [List.cons_append, Lib.index, hp, ih (fun e => h (by simp [e]))]
    simp
theorem splitK_sp (c : UInt8) : ∀ (n : Nat) (l : List UInt8), l.length ≤ n → Lib.splitK [c] 0 (l.count c) l = sp c l
  | n, l, hn => by
    rcases find_c c l with h | ⟨x, r, h, rfl⟩
    · rw [List.count_eq_zero.2 h, sp_none c l h]; rfl
    · have hc : (x ++ c :: r).count c = r.count c + 1 := by rw [List.count_append, List.count_eq_zero.2 h, List.count_cons_self, Nat.zero_add]
      cases n with
      | zero => simp at hn
      | succ n =>
        have hr : r.length ≤ n := by simp at hn; omega
        rw [hc, Lib.splitK, index_hit1 c x r h, sp_hit c x r h, ← splitK_sp c n r hr]
        rw [if_neg (by simp)]
        simp
theorem splitB_sp (c : UInt8) (s : ByteArray) : (Lib.splitB ⟨#[c]⟩ 0 (Lib.countB s ⟨#[c]⟩) s).map (·.data.toList) = sp c s.data.toList := by
  rw [Lib.splitB_data]
  show Lib.splitK [c] 0 (Lib.count s.data.toList [c]) s.data.toList = _
  rw [Lib.count_one, splitK_sp c _ _ (Nat.le_refl _)]

theorem ex_data (s : ByteArray) (a b : Nat) : (s.extract a b).data.toList = (s.data.toList.drop a).take (b - a) := by
  rw [ByteArray.data_extract, Array.toList_extract, List.extract_eq_take_drop]
theorem bs_len (s : ByteArray) : s.data.toList.length = s.size := by rw [Array.length_toList]; rfl
theorem bs_ext {s t : ByteArray} (h : s.data.toList = t.data.toList) : s = t := by
  cases s; cases t; simp only [ByteArray.mk.injEq]; exact Array.toList_inj.1 h
theorem bt_eq (s : ByteArray) (i : Nat) (h : i < s.size) : bt s (i : Int) = ((s.data.toList.getD i 0).toNat : Int) := by
  have hl : i < s.data.toList.length := by rw [bs_len]; exact h
  unfold bt
  rw [dif_pos (by simpa using h), List.getD_eq_getElem?_getD, List.getElem?_eq_getElem hl]
  rfl
theorem drop_at (l : List UInt8) (i : Nat) (h : i < l.length) : l.drop i = l.getD i 0 :: l.drop (i + 1) := by
  rw [List.getD_eq_getElem?_getD, List.getElem?_eq_getElem h, List.drop_eq_getElem_cons h]
  rfl
theorem take_at (l : List UInt8) (i : Nat) (h : i < l.length) : l.take (i + 1) = l.take i ++ [l.getD i 0] := by
  rw [List.getD_eq_getElem?_getD, List.getElem?_eq_getElem h, List.take_add_one, List.getElem?_eq_getElem h]
  rfl
theorem l1Split_tot (s : ByteArray) (c : UInt8) (hs : s.size ≤ 1048576) : Tot (fun k => spec_l1Split.f k s (c.toNat : Int)) (fun r => r.map (·.data.toList) = sp c s.data.toList) := by
  unfold spec_l1Split.f
  have hlen := bs_len s
  refine trec (σ := List ByteArray × Nat × Nat) (fun q k => spec_l1Split.l0 k s (c.toNat : Int) q.1 (q.2.1 : Int) (q.2.2 : Int)) (fun q => s.size - q.2.2)
    (fun q => q.2.1 ≤ q.2.2 ∧ q.2.2 ≤ s.size ∧ q.1.length ≤ q.2.1 ∧ c ∉ (s.data.toList.drop q.2.1).take (q.2.2 - q.2.1) ∧ q.1.map (·.data.toList) ++ sp c (s.data.toList.drop q.2.1) = sp c s.data.toList)
    (fun _ r => r.map (·.data.toList) = sp c s.data.toList) ?_ ([], 0, 0) ⟨Nat.le_refl _, Nat.zero_le _, Nat.le_refl _, by simp, by simp⟩
  rintro ⟨acc, st, i⟩ ⟨h1, h2, h3, h4, h5⟩ ih
  dsimp only at h1 h2 h3 h4 h5 ⊢
  simp only [spec_l1Split.l0]
  refine tite (fun cc => ?_) (fun cc => ?_)
  · refine tpos (by omega) ?_
    have hi : i < s.size := by omega
    rw [bt_eq s i hi]
    have hw : s.data.toList.drop st = (s.data.toList.drop st).take (i - st) ++ s.data.toList.getD i 0 :: s.data.toList.drop (i + 1) := by
      conv => lhs; rw [← List.take_append_drop (i - st) (s.data.toList.drop st)]
      rw [List.drop_drop, show st + (i - st) = i by omega, drop_at _ i (by omega)]
    refine tite (fun c2 => ?_) (fun c2 => ?_)
    · have hc : s.data.toList.getD i 0 = c := UInt8.toNat_inj.1 (by omega)
      refine tpos (by omega) (tpos (by omega) (tpos (by omega) (tpos (by omega) ?_)))
      rw [wrap64_id (by omega) (by omega)]
      have := ih (acc ++ [s.extract st i], i + 1, i + 1) ⟨Nat.le_refl _, by dsimp only; omega, by simp; omega, by simp, ?_⟩ (by dsimp only; omega)
      · simpa using this
      · rw [List.map_append, List.map_cons, List.map_nil, ex_data, ← h5]
        conv => rhs; rw [hw, hc, sp_hit c _ _ h4]
        simp
    · rw [wrap64_id (by omega) (by omega)]
      have hc : s.data.toList.getD i 0 ≠ c := fun e => c2 (by rw [e])
      have := ih (acc, st, i + 1) ⟨by dsimp only; omega, by dsimp only; omega, h3, ?_, h5⟩ (by dsimp only; omega)
      · simpa using this
      · dsimp only
        rw [show i + 1 - st = (i - st) + 1 by omega, take_at _ (i - st) (by rw [List.length_drop]; omega)]
        intro hm
        rcases List.mem_append.1 hm with hm | hm
        · exact h4 hm
        · simp only [List.mem_singleton] at hm
          apply hc
          rw [hm, List.getD_eq_getElem?_getD, List.getD_eq_getElem?_getD, List.getElem?_drop, show st + (i - st) = i by omega]
  · obtain rfl : i = s.size := by omega
    refine tpos (by omega) (tpos (by omega) (tpos (by omega) (tsome ?_)))
    rw [List.map_append, List.map_cons, List.map_nil, ← h5]
    have e : (s.extract st s.size).data.toList = s.data.toList.drop st := by
      rw [ex_data, List.take_of_length_le (by rw [List.length_drop]; omega)]
    have h4' : c ∉ s.data.toList.drop st := by rwa [List.take_of_length_le (by rw [List.length_drop]; omega)] at h4
    simp only [Int.toNat_natCast]
    rw [e, sp_none c _ h4']
theorem split_eq (s : ByteArray) (c : UInt8) (hs : s.size ≤ 1048576) : ∃ r, strings_Split.f s ⟨#[c]⟩ = some r ∧ r.map (·.data.toList) = sp c s.data.toList := by
  refine ⟨Lib.splitB ⟨#[c]⟩ 0 (Lib.countB s ⟨#[c]⟩) s, ?_, splitB_sp c s⟩
  unfold strings_Split.f
  rw [if_pos (show 1 ≤ (⟨#[c]⟩ : ByteArray).size from Nat.le_refl 1), if_pos (by omega)]
theorem snoc_ind {motive : List UInt8 → Prop} (nil : motive []) (append_singleton : ∀ (l : List UInt8) (b : UInt8), motive l → motive (l ++ [b])) (l : List UInt8) : motive l := by
  have key : ∀ l : List UInt8, motive l.reverse := by
    intro l
    induction l with
    | nil => exact nil
    | cons b l ih => rw [List.reverse_cons]; exact append_singleton _ _ ih
  have := key l.reverse
  rwa [List.reverse_reverse] at this
def dval (l : List UInt8) : Nat := l.foldl (fun a b => 10 * a + (b.toNat - 48)) 0
def Dig (b : UInt8) : Prop := 48 ≤ b.toNat ∧ b.toNat ≤ 57
def Can (l : List UInt8) : Prop := l ≠ [] ∧ (∀ b ∈ l, Dig b) ∧ (l.getD 0 0 ≠ 48 ∨ l.length = 1)
theorem dval_snoc (l : List UInt8) (b : UInt8) : dval (l ++ [b]) = 10 * dval l + (b.toNat - 48) := by simp [dval, List.foldl_append]
theorem dval_lt (l : List UInt8) (h : ∀ b ∈ l, Dig b) : dval l < 10 ^ l.length := by
  induction l using snoc_ind with
  | nil => simp [dval]
  | append_singleton l b ih =>
    have := ih (fun x hx => h x (by simp [hx]))
    have hb := h b (by simp)
    unfold Dig at hb
    rw [dval_snoc, List.length_append, List.length_singleton, Nat.pow_succ]
    omega
theorem dval_pos (l : List UInt8) (h : ∀ b ∈ l, Dig b) (h0 : l ≠ []) (h1 : l.getD 0 0 ≠ 48) : 1 ≤ dval l := by
  induction l using snoc_ind with
  | nil => exact absurd rfl h0
  | append_singleton l b ih =>
    have hb := h b (by simp)
    unfold Dig at hb
    rw [dval_snoc]
    cases l with
    | nil =>
      simp only [List.nil_append, List.getD_cons_zero] at h1
      have : b.toNat ≠ 48 := fun e => h1 (UInt8.toNat_inj.1 e)
      omega
    | cons x r =>
      have := ih (fun y hy => h y (by simp at hy ⊢; rcases hy with rfl | hy <;> simp [*])) (by simp) (by simpa using h1)
      omega
theorem can_dec (l : List UInt8) (h : Can l) : Lib.decDigits (dval l) = l := by
  induction l using snoc_ind with
  | nil => exact absurd rfl h.1
  | append_singleton l b ih =>
    have hb := h.2.1 b (by simp)
    unfold Dig at hb
    rw [dval_snoc]
    cases l with
    | nil =>
      unfold Lib.decDigits
      rw [dif_pos (by simp [dval]; omega)]
      simp only [List.nil_append, List.cons.injEq, and_true]
      apply UInt8.toNat_inj.1
      simp [dval]
      omega
    | cons x r =>
      have hd : ∀ y ∈ x :: r, Dig y := fun y hy => h.2.1 y (by simp at hy ⊢; rcases hy with rfl | hy <;> simp [*])
      have h48 : (x :: r).getD 0 0 ≠ 48 := by
        rcases h.2.2 with h3 | h3
        · simpa using h3
        · simp at h3
      have h1 := dval_pos (x :: r) hd (by simp) h48
      have h2 := ih ⟨by simp, hd, .inl h48⟩
      unfold Lib.decDigits
      rw [dif_neg (by omega), show (10 * dval (x :: r) + (b.toNat - 48)) / 10 = dval (x :: r) by omega, h2]
      congr 1
      simp only [List.cons.injEq, and_true]
      apply UInt8.toNat_inj.1
      simp
      omega
theorem dec_can (n : Nat) : Can (Lib.decDigits n) ∧ dval (Lib.decDigits n) = n ∧ (1 ≤ n → (Lib.decDigits n).getD 0 0 ≠ 48) := by
  induction n using Nat.strongRecOn with
  | ind n ih =>
    unfold Lib.decDigits
    by_cases h : n < 10
    · rw [dif_pos h]
      have e : (UInt8.ofNat (48 + n)).toNat = 48 + n := by simp; omega
      refine ⟨⟨by simp, fun b hb => ?_, .inr rfl⟩, ?_, fun h1 => ?_⟩
      · simp only [List.mem_singleton] at hb
        subst hb
        unfold Dig; rw [e]; omega
      · show 10 * 0 + ((UInt8.ofNat (48 + n)).toNat - 48) = n
        rw [e]; omega
      · simp only [List.getD_cons_zero]
        intro hc
        have := congrArg UInt8.toNat hc
        rw [e] at this
        have : (48 : UInt8).toNat = 48 := rfl
        omega
    · rw [dif_neg h]
      obtain ⟨⟨h1, h2, h3⟩, h4, h5⟩ := ih (n / 10) (by omega)
      have e : (UInt8.ofNat (48 + n % 10)).toNat = 48 + n % 10 := by simp; omega
      have h6 := h5 (by omega)
      have hg : (Lib.decDigits (n / 10) ++ [UInt8.ofNat (48 + n % 10)]).getD 0 0 = (Lib.decDigits (n / 10)).getD 0 0 := by
        cases hh : Lib.decDigits (n / 10) with
        | nil => exact absurd hh h1
        | cons a b => rfl
      refine ⟨⟨by simp, fun b hb => ?_, .inl (by rw [hg]; exact h6)⟩, ?_, fun _ => by rw [hg]; exact h6⟩
      · rcases List.mem_append.1 hb with hb | hb
        · exact h2 b hb
        · simp only [List.mem_singleton] at hb
          subst hb
          unfold Dig; rw [e]; omega
      · rw [dval_snoc, h4, e]; omega

theorem dval_take (l : List UInt8) (i : Nat) (h : i < l.length) : dval (l.take (i + 1)) = 10 * dval (l.take i) + ((l.getD i 0).toNat - 48) := by rw [take_at l i h, dval_snoc]
theorem getD_mem (l : List UInt8) (i : Nat) (h : i < l.length) : l.getD i 0 ∈ l := by
  rw [List.getD_eq_getElem?_getD, List.getElem?_eq_getElem h]
  exact List.getElem_mem h
theorem dval_take_lt (l : List UInt8) (i n : Nat) (h : ∀ b ∈ l.take i, Dig b) (hi : i ≤ n) : dval (l.take i) < 10 ^ n := by
  have h1 := dval_lt (l.take i) h
  have h2 : (l.take i).length ≤ n := by rw [List.length_take]; omega
  exact Nat.lt_of_lt_of_le h1 (Nat.pow_le_pow_right (by omega) h2)
theorem dig_step (l : List UInt8) (i : Nat) (h : i < l.length) (hd : ∀ b ∈ l.take i, Dig b) (h1 : Dig (l.getD i 0)) : ∀ b ∈ l.take (i + 1), Dig b := by
  rw [take_at l i h]
  intro b hb
  rcases List.mem_append.1 hb with hb | hb
  · exact hd b hb
  · simp only [List.mem_singleton] at hb; rw [hb]; exact h1
theorem dec_wrap (a : Nat) (b : UInt8) (ha : a < 10 ^ 9) (hb : Dig b) : wrap64 (wrap64 (10 * (a : Int)) + (((b.toNat : Int) - 48) % 256)) = ((10 * a + (b.toNat - 48) : Nat) : Int) := by
  unfold Dig at hb
  rw [wrap64_id (x := 10 * (a : Int)) (by omega) (by omega), wrap64_id (by omega) (by omega)]
  omega
theorem decimal_loop (s : ByteArray) (hs : s.size ≤ 9) : Tot (fun k => impl_decimal.l0 k s 0 0) (fun r => ((∀ b ∈ s.data.toList, Dig b) → r = ((dval s.data.toList : Int), true)) ∧ (r.2 = true → (∀ b ∈ s.data.toList, Dig b) ∧ r.1 = (dval s.data.toList : Int))) := by
  have hlen := bs_len s
  refine trec (σ := Nat) (fun i k => impl_decimal.l0 k s (dval (s.data.toList.take i) : Int) (i : Int)) (fun i => s.size - i) (fun i => i ≤ s.size ∧ ∀ b ∈ s.data.toList.take i, Dig b)
    (fun _ r => ((∀ b ∈ s.data.toList, Dig b) → r = ((dval s.data.toList : Int), true)) ∧ (r.2 = true → (∀ b ∈ s.data.toList, Dig b) ∧ r.1 = (dval s.data.toList : Int))) ?_ 0 ⟨Nat.zero_le _, by simp⟩
  rintro i ⟨h1, h2⟩ ih
  simp only [impl_decimal.l0]
  refine tite (fun c => ?_) (fun c => ?_)
  · have hi : i < s.size := by omega
    have hm := getD_mem s.data.toList i (by omega)
    refine tpos (by omega) ?_
    rw [bt_eq s i hi]
    refine tite (fun c2 => tsome ⟨fun h => absurd (h _ hm) (fun q => by unfold Dig at q; omega), fun h => by simp at h⟩) (fun c2 => ?_)
    refine tite (fun c3 => tsome ⟨fun h => absurd (h _ hm) (fun q => by unfold Dig at q; omega), fun h => by simp at h⟩) (fun c3 => ?_)
    have hd : Dig (s.data.toList.getD i 0) := by unfold Dig; omega
    rw [dec_wrap _ _ (dval_take_lt _ i 9 h2 (by omega)) hd, ← dval_take _ i (by omega), wrap64_id (by omega) (by omega)]
    exact ih (i + 1) ⟨by omega, dig_step _ i (by omega) h2 hd⟩ (by omega)
  · obtain rfl : i = s.size := by omega
    have e : s.data.toList.take s.size = s.data.toList := List.take_of_length_le (by omega)
    rw [e] at h2 ⊢
    exact tsome ⟨fun _ => rfl, fun _ => ⟨h2, rfl⟩⟩
theorem decimal_tot (s : ByteArray) (hs : s.size ≤ 1048576) : Tot (fun k => impl_decimal.f k s) (fun r => (Can s.data.toList ∧ s.size ≤ 9 → r = ((dval s.data.toList : Int), true)) ∧ (r.2 = true → Can s.data.toList ∧ s.size ≤ 9 ∧ r.1 = (dval s.data.toList : Int))) := by
  have hlen := bs_len s
  have hno : ¬ (Can s.data.toList ∧ s.size ≤ 9) → Tot (fun k => impl_decimal.j0 k s true) (fun r => (Can s.data.toList ∧ s.size ≤ 9 → r = ((dval s.data.toList : Int), true)) ∧ (r.2 = true → Can s.data.toList ∧ s.size ≤ 9 ∧ r.1 = (dval s.data.toList : Int))) := fun h => by
    refine tstep ?_
    simp only [impl_decimal.j0]
    exact tpos trivial (tsome ⟨fun g => absurd g h, fun g => by simp at g⟩)
  have hgo : s.size ≤ 9 → s.size ≠ 0 → (s.data.toList.getD 0 0 ≠ 48 ∨ s.size = 1) → Tot (fun k => impl_decimal.j0 k s false) (fun r => (Can s.data.toList ∧ s.size ≤ 9 → r = ((dval s.data.toList : Int), true)) ∧ (r.2 = true → Can s.data.toList ∧ s.size ≤ 9 ∧ r.1 = (dval s.data.toList : Int))) := fun h9 h0 h48 => by
    refine tstep ?_
    simp only [impl_decimal.j0]
    refine tneg (by simp) ?_
    refine tmono (decimal_loop s h9) (fun r hr => ⟨fun g => hr.1 g.1.2.1, fun g => ?_⟩)
    obtain ⟨g1, g2⟩ := hr.2 g
    exact ⟨⟨fun e => h0 (by rw [← hlen, e]; rfl), g1, by rw [hlen]; exact h48⟩, h9, g2⟩
  unfold impl_decimal.f
  rw [Go.ByteArray.toList_eq]
  refine tite (fun c => hno (fun h => h.1.1 c)) (fun c => ?_)
  have h0 : s.size ≠ 0 := fun e => c (List.eq_nil_of_length_eq_zero (by omega))
  refine tite (fun c2 => hno (fun h => by omega)) (fun c2 => ?_)
  refine tpos (by omega) ?_
  have hb := bt_eq s 0 (by omega)
  rw [show ((0 : Nat) : Int) = 0 from rfl] at hb
  rw [hb]
  refine tite (fun c3 => ?_) (fun c3 => hgo (by omega) h0 (.inl (fun e => c3 (by rw [e]; rfl))))
  by_cases h1 : (s.size : Int) > 1
  · rw [decide_eq_true h1]
    refine hno (fun h => ?_)
    rcases h.1.2.2 with h | h
    · exact h (UInt8.toNat_inj.1 (by have : (48 : UInt8).toNat = 48 := rfl; omega))
    · omega
  · rw [decide_eq_false h1]
    exact hgo (by omega) h0 (.inr (by omega))
theorem l1Read_loop (s : ByteArray) (hs : s.size ≤ 9) : Tot (fun k => spec_l1Read.l0 k s 0 0) (fun r => (∀ b ∈ s.data.toList, Dig b) → r = (dval s.data.toList : Int)) := by
  have hlen := bs_len s
  refine trec (σ := Nat) (fun i k => spec_l1Read.l0 k s (dval (s.data.toList.take i) : Int) (i : Int)) (fun i => s.size - i) (fun i => i ≤ s.size ∧ ∀ b ∈ s.data.toList.take i, Dig b)
    (fun _ r => (∀ b ∈ s.data.toList, Dig b) → r = (dval s.data.toList : Int)) ?_ 0 ⟨Nat.zero_le _, by simp⟩
  rintro i ⟨h1, h2⟩ ih
  simp only [spec_l1Read.l0]
  refine tite (fun c => ?_) (fun c => ?_)
  · have hi : i < s.size := by omega
    have hm := getD_mem s.data.toList i (by omega)
    refine tpos (by omega) ?_
    rw [bt_eq s i hi]
    refine tite (fun c2 => tsome (fun h => absurd (h _ hm) (fun q => by unfold Dig at q; omega))) (fun c2 => ?_)
    refine tite (fun c3 => tsome (fun h => absurd (h _ hm) (fun q => by unfold Dig at q; omega))) (fun c3 => ?_)
    have hd : Dig (s.data.toList.getD i 0) := by unfold Dig; omega
    rw [dec_wrap _ _ (dval_take_lt _ i 9 h2 (by omega)) hd, ← dval_take _ i (by omega), wrap64_id (by omega) (by omega)]
    exact ih (i + 1) ⟨by omega, dig_step _ i (by omega) h2 hd⟩ (by omega)
  · obtain rfl : i = s.size := by omega
    have e : s.data.toList.take s.size = s.data.toList := List.take_of_length_le (by omega)
    rw [e] at h2 ⊢
    exact tsome (fun _ => rfl)
theorem l1Read_tot (s : ByteArray) (hs : s.size ≤ 1048576) : Tot (fun k => spec_l1Read.f k s) (fun r => Can s.data.toList ∧ s.size ≤ 6 → r = (dval s.data.toList : Int)) := by
  have hlen := bs_len s
  have hno : ¬ (Can s.data.toList ∧ s.size ≤ 6) → Tot (fun k => spec_l1Read.j0 k s true) (fun r => Can s.data.toList ∧ s.size ≤ 6 → r = (dval s.data.toList : Int)) := fun h => by
    refine tstep ?_
    simp only [spec_l1Read.j0]
    exact tpos trivial (tsome (fun g => absurd g h))
  have hgo : s.size ≤ 6 → Tot (fun k => spec_l1Read.j0 k s false) (fun r => Can s.data.toList ∧ s.size ≤ 6 → r = (dval s.data.toList : Int)) := fun h9 => by
    refine tstep ?_
    simp only [spec_l1Read.j0]
    exact tneg (by simp) (tmono (l1Read_loop s (by omega)) (fun r hr g => hr g.1.2.1))
  unfold spec_l1Read.f
  rw [l1In_eq]
  simp only [Option.bind_some, decide_eq_true_eq]
  refine tite (fun c => ?_) (fun c => hno (fun h => c ⟨?_, by omega⟩))
  · refine tpos (by omega) ?_
    have hb := bt_eq s 0 (by omega)
    rw [show ((0 : Nat) : Int) = 0 from rfl] at hb
    rw [hb]
    refine tite (fun c3 => ?_) (fun c3 => hgo (by omega))
    by_cases h1 : (s.size : Int) > 1
    · rw [decide_eq_true h1]
      refine hno (fun h => ?_)
      rcases h.1.2.2 with h | h
      · exact h (UInt8.toNat_inj.1 (by have : (48 : UInt8).toNat = 48 := rfl; omega))
      · omega
    · rw [decide_eq_false h1]
      exact hgo (by omega)
  · have : s.data.toList ≠ [] := h.1.1
    have : s.data.toList.length ≠ 0 := fun e => this (List.eq_nil_of_length_eq_zero e)
    omega
theorem decText_bytes (n : Nat) : (decText n).data.toList = Lib.decDigits n := rfl
theorem decText_can (n : Nat) : Can (decText n).data.toList ∧ dval (decText n).data.toList = n := ⟨(dec_can n).1, (dec_can n).2.1⟩
theorem can_decText (s : ByteArray) (h : Can s.data.toList) : decText (dval s.data.toList) = s := bs_ext (by rw [decText_bytes]; exact can_dec _ h)
def NS (b : UInt8) : Prop := b ≠ 32 ∧ b ≠ 42 ∧ b ≠ 47 ∧ b ≠ 10
theorem dig_ns (b : UInt8) (h : Dig b) : NS b := by
  unfold Dig at h
  refine ⟨?_, ?_, ?_, ?_⟩ <;> (rintro rfl; revert h; decide)
theorem decText_ns (n : Nat) : ∀ b ∈ (decText n).data.toList, NS b := fun b hb => dig_ns b ((decText_can n).1.2.1 b hb)
instance (b : UInt8) : Decidable (NS b) := by unfold NS; exact inferInstance
theorem noteName_ns (i : Int) (h0 : 0 ≤ i) (h1 : i < 12) : ∀ b ∈ (rdOf ByteArray.empty noteNames i).data.toList, NS b := by
  obtain rfl | rfl | rfl | rfl | rfl | rfl | rfl | rfl | rfl | rfl | rfl | rfl : i = 0 ∨ i = 1 ∨ i = 2 ∨ i = 3 ∨ i = 4 ∨ i = 5 ∨ i = 6 ∨ i = 7 ∨ i = 8 ∨ i = 9 ∨ i = 10 ∨ i = 11 := by omega
  all_goals decide
theorem noteName_inj : ∀ i j : Fin 12, (rdOf ByteArray.empty noteNames (i.val : Int)).data.toList = (rdOf ByteArray.empty noteNames (j.val : Int)).data.toList → i = j := by decide
theorem pitchText_bytes (p : Int) : (pitchText p).data.toList = (rdOf ByteArray.empty noteNames (p % 12)).data.toList ++ (decText (p / 12).toNat).data.toList := by unfold pitchText; simp
theorem pitchText_ns (p : Int) (h0 : 24 ≤ p) (h1 : p ≤ 96) : ∀ b ∈ (pitchText p).data.toList, NS b := by
  rw [pitchText_bytes]
  intro b hb
  rcases List.mem_append.1 hb with hb | hb
  · exact noteName_ns (p % 12) (by omega) (by omega) b hb
  · exact decText_ns _ b hb
theorem decText_one (u : Nat) (h : u < 10) : (decText u).data.toList = [UInt8.ofNat (48 + u)] := by rw [decText_bytes]; unfold Lib.decDigits; rw [dif_pos h]
theorem pitchText_inj (p q : Int) (h0 : 24 ≤ p) (h1 : p ≤ 96) (h2 : 24 ≤ q) (h3 : q ≤ 96) (h : (pitchText p).data.toList = (pitchText q).data.toList) : p = q := by
  rw [pitchText_bytes, pitchText_bytes, decText_one (p / 12).toNat (by omega), decText_one (q / 12).toNat (by omega)] at h
  obtain ⟨e1, e2⟩ := List.append_inj' h rfl
  have e3 := noteName_inj ⟨(p % 12).toNat, by omega⟩ ⟨(q % 12).toNat, by omega⟩ (by
    show (rdOf ByteArray.empty noteNames (((p % 12).toNat : Nat) : Int)).data.toList = (rdOf ByteArray.empty noteNames (((q % 12).toNat : Nat) : Int)).data.toList
    rw [show (((p % 12).toNat : Nat) : Int) = p % 12 by omega, show (((q % 12).toNat : Nat) : Int) = q % 12 by omega]; exact e1)
  have e4 : (p % 12).toNat = (q % 12).toNat := congrArg Fin.val e3
  simp only [List.cons.injEq, and_true] at e2
  have e5 := congrArg UInt8.toNat e2
  simp at e5
  omega
theorem pitchText_long (p : Int) (h0 : 24 ≤ p) (h1 : p ≤ 96) : 2 ≤ (pitchText p).data.toList.length := by
  rw [pitchText_bytes, List.length_append, bs_len, bs_len]
  have := (noteName_size (p % 12) (by omega) (by omega)).2
  have := (decText_size (p / 12).toNat (by omega)).2
  omega
def fpf (w : List UInt8) : Nat → Int → Option Int
  | 0, _ => none
  | n + 1, p => if (pitchText p).data.toList = w then some p else fpf w n (p + 1)
theorem fpf_some (w : List UInt8) : ∀ (n : Nat) (p q : Int), fpf w n p = some q → p ≤ q ∧ q < p + n ∧ (pitchText q).data.toList = w
  | 0, p, q, h => by simp [fpf] at h
  | n + 1, p, q, h => by
    unfold fpf at h
    split at h
    · rename_i c
      obtain rfl := Option.some.inj h
      exact ⟨Int.le_refl _, by omega, c⟩
    · have := fpf_some w n (p + 1) q h
      exact ⟨by omega, by omega, this.2.2⟩
theorem fpf_hit (q : Int) : ∀ (n : Nat) (p : Int), p ≤ q → q < p + n → 24 ≤ p → p + n ≤ 97 → fpf (pitchText q).data.toList n p = some q
  | 0, p, h1, h2, h3, h4 => by omega
  | n + 1, p, h1, h2, h3, h4 => by
    unfold fpf
    by_cases c : (pitchText p).data.toList = (pitchText q).data.toList
    · rw [if_pos c, pitchText_inj p q (by omega) (by omega) (by omega) (by omega) c]
    · rw [if_neg c]
      have : p ≠ q := fun e => c (by rw [e])
      exact fpf_hit q n (p + 1) (by omega) (by omega) (by omega) (by omega)
theorem ntRead_loop (s : ByteArray) : ∀ (n : Nat) (p : Int), p + n = 97 → 24 ≤ p → Tot (fun k => spec_ntRead.l0 k s p) (fun r => r = (fpf s.data.toList n p).getD (-1))
  | 0, p, h, h0 => by
    refine tstep ?_
    simp only [spec_ntRead.l0]
    exact tneg (by omega) (tsome rfl)
  | n + 1, p, h, h0 => by
    refine tstep ?_
    simp only [spec_ntRead.l0]
    refine tpos (by omega) ?_
    refine tbind (ntName_tot p (by omega) (by omega)) (fun _ e => ?_); subst e
    rw [Go.ByteArray.toList_eq, Go.ByteArray.toList_eq, wrap64_id (by omega) (by omega)]
    unfold fpf
    refine tite (fun c => tsome (by rw [if_pos c]; rfl)) (fun c => ?_)
    rw [if_neg c]
    exact ntRead_loop s n (p + 1) (by omega) (by omega)
theorem ntRead_tot (s : ByteArray) : Tot (fun k => spec_ntRead.f k s) (fun r => r = (fpf s.data.toList 73 24).getD (-1)) := ntRead_loop s 73 24 (by omega) (by omega)
theorem pitchNamed_loop (s : ByteArray) : ∀ (n : Nat) (p : Int), p + n = 97 → 24 ≤ p → Tot (fun k => impl_pitchNamed.l0 k s p) (fun r => r = (fpf s.data.toList n p).getD 0)
  | 0, p, h, h0 => by
    refine tstep ?_
    simp only [impl_pitchNamed.l0]
    exact tneg (by omega) (tsome rfl)
  | n + 1, p, h, h0 => by
    refine tstep ?_
    simp only [impl_pitchNamed.l0]
    refine tpos (by omega) ?_
    rw [pitchName_eq p (by omega) (by omega)]
    simp only [Option.bind_some]
    rw [Go.ByteArray.toList_eq, Go.ByteArray.toList_eq, wrap64_id (by omega) (by omega)]
    unfold fpf
    refine tite (fun c => tsome (by rw [if_pos c]; rfl)) (fun c => ?_)
    rw [if_neg c]
    exact pitchNamed_loop s n (p + 1) (by omega) (by omega)
theorem pitchNamed_tot (s : ByteArray) : Tot (fun k => impl_pitchNamed.f k s) (fun r => r = (fpf s.data.toList 73 24).getD 0) := pitchNamed_loop s 73 24 (by omega) (by omega)
theorem ns_no1 (c : UInt8) (hc : ¬ NS c) (l : List UInt8) (h : ∀ b ∈ l, NS b) : c ∉ l := fun hm => hc (h c hm)
theorem mem_len (c : UInt8) (l : List UInt8) : ∀ w ∈ sp c l, w.length ≤ l.length := by
  induction l with
  | nil => simp [sp]
  | cons b l ih =>
    obtain ⟨x, t, e⟩ := sp_cons c l
    unfold sp
    rw [e] at ih ⊢
    split
    · intro w hw
      rcases List.mem_cons.1 hw with rfl | hw
      · simp
      · have := ih w hw; simp; omega
    · intro w hw
      simp only [List.headD_cons, List.tail_cons] at hw
      rcases List.mem_cons.1 hw with rfl | hw
      · have := ih x (by simp); simp; omega
      · have := ih w (List.mem_cons_of_mem _ hw); simp; omega
theorem rd_mem_size1 {r : List ByteArray} {c : UInt8} {l : List UInt8} (h : r.map (·.data.toList) = sp c l) (i : Int) : (rdOf ByteArray.empty r i).size ≤ l.length := by
  unfold rdOf
  rw [List.getD_eq_getElem?_getD]
  cases hh : r[i.toNat]? with
  | none => exact Nat.zero_le _
  | some a =>
    have : a.data.toList ∈ sp c l := by rw [← h]; exact List.mem_map_of_mem (List.mem_of_getElem? hh)
    have := mem_len c l _ this
    rw [bs_len] at this
    exact this
theorem dec6 (n : Nat) (h : n < 1000000) : (decText n).size ≤ 6 := by
  have key : ∀ (d u : Nat), u < 10 ^ (d + 1) → d ≤ 5 → (decText u).size ≤ d + 1 := by
    intro d
    induction d with
    | zero => intro u hu _; rw [decText_small u (by omega)]; exact Nat.le_refl _
    | succ d ih =>
      intro u hu hd
      by_cases h10 : u < 10
      · rw [decText_small u h10]; show 1 ≤ _; omega
      · have hlt : u < 1000000 := Nat.lt_of_lt_of_le hu (Nat.pow_le_pow_right (by omega) (show d + 1 + 1 ≤ 6 by omega))
        rw [decText_big u h10 (by omega), ByteArray.size_append]
        have h1 := ih (u / 10) (by rw [Nat.pow_succ] at hu; omega) (by omega)
        have h2 : (strOfNums ([(wrap64 (48 + ((u % 10 : Nat) : Int))) % 256] : List Int)).size = 1 := rfl
        omega
  exact key 5 n (by omega) (by omega)
theorem cut_hit (c : UInt8) (x r : List UInt8) (h : c ∉ x) : Lib.cut (x ++ c :: r) [c] = (x, r, true) := by
  unfold Lib.cut
  rw [index_hit1 c x r h, if_pos (by omega)]
  simp
theorem cut_true (c : UInt8) (l : List UInt8) (h : (Lib.cut l [c]).2.2 = true) : c ∉ (Lib.cut l [c]).1 ∧ l = (Lib.cut l [c]).1 ++ c :: (Lib.cut l [c]).2.1 := by
  rcases find_c c l with h1 | ⟨x, r, h1, rfl⟩
  · unfold Lib.cut at h
    rw [index_none1 c l h1, if_neg (by omega)] at h
    cases h
  · rw [cut_hit c x r h1]
    exact ⟨h1, rfl⟩

def lnB (e : S54) : List UInt8 := (pitchText e.f0).data.toList ++ 32 :: ((decText e.f1.toNat).data.toList ++ 32 :: (decText e.f2.toNat).data.toList)
theorem noteText_bytes (e : S54) : (noteText e).data.toList = lnB e ++ [10] := by
  unfold noteText lnB
  simp
theorem rd_nt (l : List S54) (i : Nat) (h : i < l.length) : rd_T54 l (i : Int) = l[i] := by
  unfold rd_T54
  rw [List.getD_eq_getElem?_getD]
  simp [h]
theorem take_nt (l : List S54) (i : Nat) (h : i < l.length) : l.take (i + 1) = l.take i ++ [rd_T54 l (i : Int)] := by
  rw [rd_nt l i h, List.take_add_one, List.getElem?_eq_getElem h]
  rfl
theorem good_mem (l : List S54) (hg : ntGood l) : ∀ e ∈ l, OkNote e.f0 e.f1 e.f2 := by
  intro e he
  obtain ⟨i, hi, rfl⟩ := List.getElem_of_mem he
  have := (hg.1 (i : Int) (by omega) (by omega)).1
  rw [rd_nt l i hi] at this
  exact this
def scB (ls : List (List UInt8)) : List UInt8 := (ls.map (· ++ [10])).flatten
theorem scUpto_bytes (l : List S54) (i : Nat) (h : i ≤ l.length) : (scUpto l i).data.toList = scB ((l.take i).map lnB) := by
  induction i with
  | zero => rfl
  | succ i ih =>
    rw [scUpto, take_nt l i (by omega), List.map_append]
    show (scUpto l i ++ noteText (rd_T54 l i)).data.toList = _
    have e : (scUpto l i ++ noteText (rd_T54 l i)).data.toList = (scUpto l i).data.toList ++ (noteText (rd_T54 l i)).data.toList := by simp
    rw [e, ih (by omega), noteText_bytes]
    simp [scB]
theorem sc_all (l : List S54) : (scUpto l l.length).data.toList = scB (l.map lnB) := by rw [scUpto_bytes l l.length (Nat.le_refl _), List.take_length]
theorem sp_sc (ls : List (List UInt8)) (h : ∀ w ∈ ls, (10 : UInt8) ∉ w) : sp 10 (scB ls) = ls ++ [[]] := by
  induction ls with
  | nil => rfl
  | cons x r ih =>
    have : scB (x :: r) = x ++ 10 :: scB r := by simp [scB]
    rw [this, sp_hit 10 _ _ (h x (by simp)), ih (fun w hw => h w (List.mem_cons_of_mem _ hw))]
    rfl
theorem sc_join (ls : List (List UInt8)) (h : ls ≠ []) : scB ls = Lib.join ls [10] ++ [10] := by
  induction ls with
  | nil => exact absurd rfl h
  | cons x r ih =>
    have e : scB (x :: r) = x ++ 10 :: scB r := by simp [scB]
    rw [e]
    cases r with
    | nil => rw [Lib.join_one]; rfl
    | cons y r =>
      have h2 := ih (by simp)
      rw [Lib.join_cons] at h2 ⊢
      simp only [Lib.joinTail, List.map_cons, List.flatten_cons, List.append_assoc, List.nil_append, List.cons_append] at h2 ⊢
      rw [h2]
theorem ns_ten (l : List UInt8) (h : ∀ b ∈ l, NS b) : (10 : UInt8) ∉ l := ns_no1 10 (by decide) l h
theorem ln_ten (e : S54) (h : OkNote e.f0 e.f1 e.f2) : (10 : UInt8) ∉ lnB e := by
  unfold OkNote at h
  intro hm
  unfold lnB at hm
  rcases List.mem_append.1 hm with hm | hm
  · exact ns_ten _ (pitchText_ns _ (by omega) (by omega)) hm
  · rcases List.mem_cons.1 hm with hm | hm
    · exact absurd hm (by decide)
    · rcases List.mem_append.1 hm with hm | hm
      · exact ns_ten _ (decText_ns _) hm
      · rcases List.mem_cons.1 hm with hm | hm
        · exact absurd hm (by decide)
        · exact ns_ten _ (decText_ns _) hm
theorem three_of {r : List ByteArray} {x y z : List UInt8} (h : r.map (·.data.toList) = [x, y, z]) : r.length = 3 ∧ (rdOf ByteArray.empty r 0).data.toList = x ∧ (rdOf ByteArray.empty r 1).data.toList = y ∧ (rdOf ByteArray.empty r 2).data.toList = z := by
  match r, h with
  | [a, b, c], h => simp only [List.map_cons, List.map_nil, List.cons.injEq, and_true] at h; exact ⟨rfl, h.1, h.2.1, h.2.2⟩
theorem ln_rd (l : List S54) (i : Nat) (hi : i < l.length) (x : List (List UInt8)) : (l.map lnB ++ x).getD i [] = lnB (rd_T54 l (i : Int)) := by
  rw [List.getD_eq_getElem?_getD, List.getElem?_append_left (by simpa using hi), List.getElem?_map, List.getElem?_eq_getElem hi, rd_nt l i hi]
  rfl
theorem map_rd1 (t : List ByteArray) (l : List (List UInt8)) (h : t.map (·.data.toList) = l) (i : Nat) (hi : i < t.length) : (rdOf ByteArray.empty t (i : Int)).data.toList = l.getD i [] := by
  subst h
  unfold rdOf
  rw [List.getD_eq_getElem?_getD, List.getD_eq_getElem?_getD, List.getElem?_map]
  simp [hi]
theorem specPS_hit (s : ByteArray) (hs : s.size ≤ 1048576) (l : List S54) (hg : ntGood l) (he : scB (l.map lnB) = s.data.toList) : Tot (fun k => spec_ParseScore.f k s) (fun r => r = (l, true)) := by
  have hlen := bs_len s
  have hn := hg.2
  have hok := good_mem l hg
  unfold spec_ParseScore.f spec_ntParse.f
  refine tbind (Q := fun r => r = (l, true)) ?_ (fun _ e => by subst e; exact tsome rfl)
  refine tbind (l1Split_tot s 10 hs) (fun t ht => ?_)
  rw [← he, sp_sc _ (fun w hw => by obtain ⟨e, h1, rfl⟩ := List.mem_map.1 hw; exact ln_ten e (hok e h1))] at ht
  have hl : t.length = l.length + 1 := by have := congrArg List.length ht; simpa using this
  refine tneg (by omega) ?_
  rw [wrap64_id (x := (t.length : Int) - 1) (by omega) (by omega)]
  refine tpos (by omega) (tpos (by omega) ?_)
  simp only [Option.bind_some]
  rw [show ((t.length : Int) - 1).toNat = l.length by omega]
  have hl2 : (t.take l.length).length = l.length := by rw [List.length_take]; omega
  have ht2 : (t.take l.length).map (·.data.toList) = l.map lnB := by
    rw [List.map_take, ht]
    rw [List.take_append_of_le_length (by simp), List.take_of_length_le (by simp)]
  rw [hl2]
  refine trec (σ := Nat) (fun i k => spec_ntParse.l0 k s (l.take i) (t.take l.length) (l.length : Int) (i : Int)) (fun i => l.length - i) (fun i => i ≤ l.length) (fun _ r => r = (l, true)) ?_ 0 (Nat.zero_le _)
  intro i hi ih
  simp only [spec_ntParse.l0]
  refine tite (fun c => ?_) (fun c => ?_)
  · have hi2 : i < l.length := by omega
    have o := hok (rd_T54 l i) (by rw [rd_nt l i hi2]; exact List.getElem_mem hi2)
    have hw := map_rd1 _ _ ht2 i (by omega)
    have hr := ln_rd l i hi2 []
    rw [List.append_nil] at hr
    rw [hr] at hw
    unfold OkNote at o
    have n1 := (pitchText_size (rd_T54 l i).f0 (by omega) (by omega)).1
    have n2 := dec6 (rd_T54 l i).f1.toNat (by omega)
    have n3 := dec6 (rd_T54 l i).f2.toNat (by omega)
    have hz := congrArg List.length hw
    unfold lnB at hz
    rw [bs_len, List.length_append, List.length_cons, List.length_append, List.length_cons, bs_len, bs_len, bs_len] at hz
    refine tpos (by omega) (tpos (by omega) ?_)
    refine tbind (l1Split_tot _ 32 (by omega)) (fun t3 e3 => ?_)
    rw [hw] at e3
    unfold lnB at e3
    rw [sp_hit 32 _ _ (ns_no1 32 (by decide) _ (pitchText_ns _ (by omega) (by omega))), sp_hit 32 _ _ (ns_no1 32 (by decide) _ (decText_ns _)), sp_none 32 _ (ns_no1 32 (by decide) _ (decText_ns _))] at e3
    obtain ⟨a1, a2, a3, a4⟩ := three_of e3
    have z1 : (rdOf ByteArray.empty t3 1).size ≤ 6 := by have q := congrArg List.length a3; rw [bs_len, bs_len] at q; omega
    have z2 : (rdOf ByteArray.empty t3 2).size ≤ 6 := by have q := congrArg List.length a4; rw [bs_len, bs_len] at q; omega
    refine tpos (by omega) (tpos (by omega) ?_)
    refine tbind (ntRead_tot _) (fun p hp => ?_)
    rw [a2, fpf_hit _ 73 24 (by omega) (by omega) (by omega) (by omega)] at hp
    simp only [Option.getD_some] at hp
    refine tpos (by omega) ?_
    refine tbind (l1Read_tot (rdOf ByteArray.empty t3 1) (by omega)) (fun m1 g1 => ?_)
    refine tpos (by omega) ?_
    refine tbind (l1Read_tot (rdOf ByteArray.empty t3 2) (by omega)) (fun m2 g2 => ?_)
    have f1 : m1 = (rd_T54 l i).f1 := by rw [g1 ⟨by rw [a3]; exact (decText_can _).1, z1⟩, a3, (decText_can _).2]; omega
    have f2 : m2 = (rd_T54 l i).f2 := by rw [g2 ⟨by rw [a4]; exact (decText_can _).1, z2⟩, a4, (decText_can _).2]; omega
    subst hp f1 f2
    refine tpos (by rw [List.length_take]; omega) ?_
    rw [wrap64_id (by omega) (by omega)]
    have := ih (i + 1) (by omega) (by omega)
    rw [take_nt l i hi2] at this
    exact this
  · obtain rfl : i = l.length := by omega
    rw [List.take_length]
    refine tbind (ntGood_tot l (by omega)) (fun b hb => tpos (hb.2 hg) ?_)
    refine tbind (ntText_tot l hg) (fun _ e => ?_); subst e
    rw [Go.ByteArray.toList_eq, Go.ByteArray.toList_eq]
    exact tpos ((sc_all l).trans he) (tsome rfl)
theorem specPS_miss (s : ByteArray) (hs : s.size ≤ 1048576) (hno : ∀ l : List S54, ntGood l → scB (l.map lnB) ≠ s.data.toList) : Tot (fun k => spec_ParseScore.f k s) (fun r => r = ([], false)) := by
  have hlen := bs_len s
  unfold spec_ParseScore.f spec_ntParse.f
  refine tbind (Q := fun r => r = ([], false)) ?_ (fun _ e => by subst e; exact tsome rfl)
  refine tbind (l1Split_tot s 10 hs) (fun t ht => ?_)
  refine tite (fun c => tsome rfl) (fun c30 => ?_)
  have h0 : 0 < t.length := by
    have := congrArg List.length ht
    have h1 := sp_ne 10 s.data.toList
    have h2 : (sp 10 s.data.toList).length ≠ 0 := fun e => h1 (List.eq_nil_of_length_eq_zero e)
    rw [List.length_map] at this
    omega
  rw [wrap64_id (x := (t.length : Int) - 1) (by omega) (by omega)]
  refine tpos (by omega) (tpos (by omega) ?_)
  simp only [Option.bind_some]
  rw [show ((t.length : Int) - 1).toNat = t.length - 1 by omega]
  have hl2 : (t.take (t.length - 1)).length = t.length - 1 := by rw [List.length_take]; omega
  rw [hl2]
  have hsz : ∀ i : Int, (rdOf ByteArray.empty (t.take (t.length - 1)) i).size ≤ 1048576 := by
    intro i
    unfold rdOf
    rw [List.getD_eq_getElem?_getD]
    cases hh : (t.take (t.length - 1))[i.toNat]? with
    | none => exact Nat.zero_le _
    | some a =>
      have hm : a ∈ t := List.mem_of_mem_take (List.mem_of_getElem? hh)
      have : a.data.toList ∈ sp 10 s.data.toList := by rw [← ht]; exact List.mem_map_of_mem hm
      have := mem_len 10 _ _ this
      rw [bs_len] at this
      show a.size ≤ _
      omega
  refine trec (σ := List S54 × Nat) (fun q k => spec_ntParse.l0 k s q.1 (t.take (t.length - 1)) ((t.length - 1 : Nat) : Int) (q.2 : Int)) (fun q => t.length - 1 - q.2) (fun q => q.2 ≤ t.length - 1 ∧ q.1.length = q.2) (fun _ r => r = ([], false)) ?_ ([], 0) ⟨Nat.zero_le _, rfl⟩
  rintro ⟨acc, i⟩ ⟨h1, h2⟩ ih
  dsimp only at h1 h2 ⊢
  simp only [spec_ntParse.l0]
  refine tite (fun c => ?_) (fun c => ?_)
  · refine tpos (by omega) (tpos (by omega) ?_)
    have z := hsz (i : Int)
    have hb := bs_len (rdOf ByteArray.empty (t.take (t.length - 1)) (i : Int))
    refine tbind (l1Split_tot _ 32 z) (fun t3 e3 => ?_)
    refine tite (fun c3 => ?_) (fun _ => tsome rfl)
    have z1 := rd_mem_size1 e3 1
    have z2 := rd_mem_size1 e3 2
    refine tpos (by omega) ?_
    refine tbind (ntRead_tot _) (fun p _ => ?_)
    refine tpos (by omega) ?_
    refine tbind (l1Read_tot (rdOf ByteArray.empty t3 1) (by omega)) (fun m1 _ => ?_)
    refine tpos (by omega) ?_
    refine tbind (l1Read_tot (rdOf ByteArray.empty t3 2) (by omega)) (fun m2 _ => ?_)
    refine tpos (by omega) ?_
    rw [wrap64_id (by omega) (by omega)]
    have := ih (acc ++ [⟨p, m1, m2⟩], i + 1) ⟨by dsimp only; omega, by simp; omega⟩ (by dsimp only; omega)
    simpa using this
  · refine tbind (ntGood_tot acc (by omega)) (fun b hb => ?_)
    refine tite (fun c2 => ?_) (fun _ => tsome rfl)
    have hg := hb.1 c2
    refine tbind (ntText_tot acc hg) (fun _ e => ?_); subst e
    rw [Go.ByteArray.toList_eq, Go.ByteArray.toList_eq]
    exact tneg (fun h => hno acc hg ((sc_all acc).symm.trans h)) (tsome rfl)

theorem suffix_eq (s : ByteArray) (hs : s.size ≤ 1048576) : ∃ b, strings_HasSuffix.f s (⟨#[10]⟩ : ByteArray) = some b ∧ (b = true ↔ ∃ p, s.data.toList = p ++ [10]) := by
  have hlen := bs_len s
  have z : (⟨#[10]⟩ : ByteArray).size = 1 := rfl
  unfold strings_HasSuffix.f stringslite_HasSuffix.f
  rw [z]
  by_cases h : (s.size : Int) ≥ ((1 : Nat) : Int)
  · rw [if_pos h, wrap64_id (x := (s.size : Int) - ((1 : Nat) : Int)) (by omega) (by omega), if_pos (by omega), if_pos (by omega)]
    refine ⟨_, rfl, ?_⟩
    rw [beq_iff_eq, Go.ByteArray.toList_eq, Go.ByteArray.toList_eq, ex_data, show ((s.size : Int) - ((1 : Nat) : Int)).toNat = s.size - 1 by omega]
    have e : s.data.toList = s.data.toList.take (s.size - 1) ++ s.data.toList.drop (s.size - 1) := (List.take_append_drop _ _).symm
    rw [List.take_of_length_le (by rw [List.length_drop]; omega)]
    show s.data.toList.drop (s.size - 1) = [10] ↔ _
    constructor
    · intro h1
      exact ⟨s.data.toList.take (s.size - 1), by rw [h1] at e; exact e⟩
    · rintro ⟨p, hp⟩
      have : p.length = s.size - 1 := by have := congrArg List.length hp; simp at this; omega
      rw [hp, ← this, List.drop_left]
  · rw [if_neg h]
    refine ⟨false, rfl, ⟨fun h => by simp at h, ?_⟩⟩
    rintro ⟨p, hp⟩
    have := congrArg List.length hp
    simp at this
    omega
theorem init_data (s : ByteArray) (p : List UInt8) (h : s.data.toList = p ++ [10]) : (s.extract 0 ((s.size : Int) - 1).toNat).data.toList = p ∧ (s.extract 0 ((s.size : Int) - 1).toNat).size = p.length ∧ s.size = p.length + 1 := by
  have hlen := bs_len s
  have h1 := congrArg List.length h
  rw [List.length_append, List.length_singleton] at h1
  have e : (s.extract 0 ((s.size : Int) - 1).toNat).data.toList = p := by
    rw [ex_data, List.drop_zero, h, show ((s.size : Int) - 1).toNat - 0 = p.length by omega, List.take_left]
  exact ⟨e, by rw [← bs_len, e], by omega⟩
theorem textLines_hit (s : ByteArray) (hs : s.size ≤ 1048576) (p : List UInt8) (h : s.data.toList = p ++ [10]) : ∃ t, impl_textLines.f s = some (t, true) ∧ t.map (·.data.toList) = sp 10 p := by
  have hlen := bs_len s
  obtain ⟨i1, i2, i3⟩ := init_data s p h
  obtain ⟨b, hb, hb2⟩ := suffix_eq s hs
  obtain ⟨t, ht, ht2⟩ := split_eq (s.extract 0 ((s.size : Int) - 1).toNat) 10 (by omega)
  refine ⟨t, ?_, by rw [ht2, i1]⟩
  unfold impl_textLines.f
  rw [Go.ByteArray.toList_eq, if_neg (by rw [h]; simp), hb]
  simp only [Option.bind_some]
  rw [if_pos (hb2.2 ⟨p, h⟩), wrap64_id (x := (s.size : Int) - 1) (by omega) (by omega), if_pos (by omega), if_pos (by omega), ht]
  rfl
theorem textLines_no (s : ByteArray) (hs : s.size ≤ 1048576) (h0 : s.data.toList ≠ []) (h : ¬ ∃ p, s.data.toList = p ++ [10]) : impl_textLines.f s = some ([], false) := by
  obtain ⟨b, hb, hb2⟩ := suffix_eq s hs
  unfold impl_textLines.f
  rw [Go.ByteArray.toList_eq, if_neg h0, hb]
  simp only [Option.bind_some]
  rw [if_neg (fun e => h (hb2.1 e))]

theorem numberLine_tot (s : ByteArray) (hs : s.size ≤ 1048576) : Tot (fun k => impl_numberLine.f k s 2) (fun r => (∀ a b : Nat, a < 1000000 → b < 1000000 → s.data.toList = (decText a).data.toList ++ 32 :: (decText b).data.toList → r = ([(a : Int), (b : Int)], true)) ∧ (r.2 = true → ∃ a b : Nat, r.1 = [(a : Int), (b : Int)] ∧ s.data.toList = (decText a).data.toList ++ 32 :: (decText b).data.toList)) := by
  have hlen := bs_len s
  obtain ⟨t, hts, ht⟩ := split_eq s 32 hs
  unfold impl_numberLine.f
  rw [hts]
  simp only [Option.bind_some]
  have two : ∀ a b : Nat, s.data.toList = (decText a).data.toList ++ 32 :: (decText b).data.toList → sp 32 s.data.toList = [(decText a).data.toList, (decText b).data.toList] := by
    intro a b h
    rw [h, sp_hit 32 _ _ (ns_no1 32 (by decide) _ (decText_ns _)), sp_none 32 _ (ns_no1 32 (by decide) _ (decText_ns _))]
  refine tite (fun c => ?_) (fun c => tsome ⟨fun a b _ _ h => ?_, fun h => by simp at h⟩)
  · have z0 := rd_mem_size1 ht 0
    have z1 := rd_mem_size1 ht 1
    obtain ⟨x, y, rfl⟩ : ∃ x y, t = [x, y] := by
      match t, c with
      | [x, y], _ => exact ⟨x, y, rfl⟩
    have e0 : rdOf ByteArray.empty [x, y] 0 = x := rfl
    have e1 : rdOf ByteArray.empty [x, y] 1 = y := rfl
    rw [e0] at z0
    rw [e1] at z1
    refine tstep ?_
    simp only [impl_numberLine.l0]
    refine tpos (by simp) (tpos (by omega) (tpos (by simp) ?_))
    rw [e0]
    refine tbind (decimal_tot x (by omega)) (fun r1 g1 => ?_)
    have hj : Lib.join [x.data.toList, y.data.toList] [32] = s.data.toList := by
      have := sp_join 32 s.data.toList
      rw [← ht] at this
      exact this
    rw [Lib.join_cons] at hj
    simp only [Lib.joinTail, List.map_cons, List.map_nil, List.flatten_cons, List.flatten_nil, List.append_nil, List.cons_append, List.nil_append] at hj
    refine tite (fun k1 => ?_) (fun k1 => tsome ⟨fun a b ha hb h => ?_, fun h => by simp at h⟩)
    · refine tpos (by simp) ?_
      rw [show wrap64 (0 + 1) = 1 from wrap64_id (by omega) (by omega)]
      refine tstep ?_
      simp only [impl_numberLine.l0]
      refine tpos (by simp) (tpos (by omega) (tpos (by simp) ?_))
      rw [e1]
      refine tbind (decimal_tot y (by omega)) (fun r2 g2 => ?_)
      refine tite (fun k2 => ?_) (fun k2 => tsome ⟨fun a b ha hb h => ?_, fun h => by simp at h⟩)
      · refine tpos (by simp) ?_
        rw [show wrap64 (1 + 1) = 2 from wrap64_id (by omega) (by omega)]
        refine tstep ?_
        simp only [impl_numberLine.l0]
        refine tneg (by simp) (tsome ?_)
        obtain ⟨d1, _, d2⟩ := g1.2 k1
        obtain ⟨d3, _, d4⟩ := g2.2 k2
        refine ⟨fun a b ha hb h => ?_, fun _ => ⟨dval x.data.toList, dval y.data.toList, by rw [d2, d4]; rfl, ?_⟩⟩
        · rw [two a b h] at ht
          simp only [List.map_cons, List.map_nil, List.cons.injEq, and_true] at ht
          rw [d2, d4, ht.1, ht.2, (decText_can a).2, (decText_can b).2]
          rfl
        · rw [decText_bytes, decText_bytes, can_dec _ d1, can_dec _ d3]
          exact hj.symm
      · rw [two a b h] at ht
        simp only [List.map_cons, List.map_nil, List.cons.injEq, and_true] at ht
        have q := congrArg List.length ht.2
        rw [bs_len, bs_len] at q
        have := dec6 b hb
        have := g2.1 ⟨by rw [ht.2]; exact (decText_can b).1, by omega⟩
        rw [this] at k2
        exact absurd rfl k2
    · rw [two a b h] at ht
      simp only [List.map_cons, List.map_nil, List.cons.injEq, and_true] at ht
      have q := congrArg List.length ht.1
      rw [bs_len, bs_len] at q
      have := dec6 a ha
      have := g1.1 ⟨by rw [ht.1]; exact (decText_can a).1, by omega⟩
      rw [this] at k1
      exact absurd rfl k1
  · rw [two a b h] at ht
    have := congrArg List.length ht
    simp at this
    omega

theorem toArr1 (l : List UInt8) : (⟨l.toArray⟩ : ByteArray).data.toList = l := rfl
theorem toArr_size1 (l : List UInt8) : (⟨l.toArray⟩ : ByteArray).size = l.length := by rw [← bs_len]
theorem cut_eq1 (a : ByteArray) (c : UInt8) (h : a.size ≤ 1048576) : strings_Cut.f a ⟨#[c]⟩ = some (⟨(Lib.cut a.data.toList [c]).1.toArray⟩, ⟨(Lib.cut a.data.toList [c]).2.1.toArray⟩, (Lib.cut a.data.toList [c]).2.2) := by
  unfold strings_Cut.f
  rw [if_pos (by omega)]
theorem cut_len1 (l : List UInt8) (c : UInt8) : (Lib.cut l [c]).1.length ≤ l.length ∧ (Lib.cut l [c]).2.1.length ≤ l.length := by
  rcases find_c c l with h | ⟨x, r, h, rfl⟩
  · unfold Lib.cut
    rw [index_none1 c l h, if_neg (by omega)]
    simp
  · rw [cut_hit c x r h]
    simp
    omega
theorem implPS_hit (s : ByteArray) (hs : s.size ≤ 1048576) (l : List S54) (hg : ntGood l) (he : scB (l.map lnB) = s.data.toList) : Tot (fun k => impl_ParseScore.f k s) (fun r => r = (l, true)) := by
  have hlen := bs_len s
  have hn := hg.2
  have hok := good_mem l hg
  have hten : ∀ w ∈ l.map lnB, (10 : UInt8) ∉ w := fun w hw => by obtain ⟨e, h1, rfl⟩ := List.mem_map.1 hw; exact ln_ten e (hok e h1)
  have hlines : ∃ t, impl_textLines.f s = some (t, true) ∧ t.map (·.data.toList) = l.map lnB := by
    by_cases h0 : l = []
    · subst h0
      refine ⟨[], ?_, rfl⟩
      unfold impl_textLines.f
      rw [Go.ByteArray.toList_eq, if_pos (show s.data.toList = [] from he.symm)]
    · have hm : l.map lnB ≠ [] := by simpa using h0
      rw [sc_join _ hm] at he
      obtain ⟨t, h1, h2⟩ := textLines_hit s hs _ he.symm
      exact ⟨t, h1, by rw [h2, sp_of_join 10 _ hm hten]⟩
  obtain ⟨t, h1, ht⟩ := hlines
  have hl : t.length = l.length := by have := congrArg List.length ht; simpa using this
  unfold impl_ParseScore.f
  rw [h1]
  simp only [Option.bind_some]
  refine tpos (by trivial) ?_
  rw [decide_eq_false (by omega)]
  refine tstep ?_
  simp only [impl_ParseScore.j0]
  refine tneg (by simp) ?_
  refine trec (σ := Nat) (fun i k => impl_ParseScore.l0 k (l.take i) t (t.length : Int) (i : Int)) (fun i => l.length - i) (fun i => i ≤ l.length) (fun _ r => r = (l, true)) ?_ 0 (Nat.zero_le _)
  intro i hi ih
  simp only [impl_ParseScore.l0]
  refine tite (fun c => ?_) (fun c => ?_)
  · have hi2 : i < l.length := by omega
    have o := hok (rd_T54 l i) (by rw [rd_nt l i hi2]; exact List.getElem_mem hi2)
    have hw := map_rd1 _ _ ht i (by omega)
    have hr := ln_rd l i hi2 []
    rw [List.append_nil] at hr
    rw [hr] at hw
    unfold OkNote at o
    have n1 := (pitchText_size (rd_T54 l i).f0 (by omega) (by omega)).1
    have n2 := dec6 (rd_T54 l i).f1.toNat (by omega)
    have n3 := dec6 (rd_T54 l i).f2.toNat (by omega)
    have hz := congrArg List.length hw
    unfold lnB at hz
    rw [bs_len, List.length_append, List.length_cons, List.length_append, List.length_cons, bs_len, bs_len, bs_len] at hz
    refine tpos (by omega) (tpos c ?_)
    have hc1 : Lib.cut (rdOf ByteArray.empty t (i : Int)).data.toList [32] = ((pitchText (rd_T54 l i).f0).data.toList, (decText (rd_T54 l i).f1.toNat).data.toList ++ 32 :: (decText (rd_T54 l i).f2.toNat).data.toList, true) := by
      rw [hw]
      unfold lnB
      rw [cut_hit 32 _ _ (ns_no1 32 (by decide) _ (pitchText_ns _ (by omega) (by omega)))]
    rw [cut_eq1 _ 32 (by omega), hc1]
    simp only [Option.bind_some]
    refine tbind (numberLine_tot _ (by rw [toArr_size1, List.length_append, List.length_cons, bs_len, bs_len]; omega)) (fun r2 g2 => ?_)
    have f2 := g2.1 (rd_T54 l i).f1.toNat (rd_T54 l i).f2.toNat (by omega) (by omega) (toArr1 _)
    subst f2
    refine tpos (by trivial) (tpos (by trivial) ?_)
    refine tbind (pitchNamed_tot _) (fun p hp => ?_)
    rw [toArr1, fpf_hit _ 73 24 (by omega) (by omega) (by omega) (by omega)] at hp
    simp only [Option.getD_some] at hp
    subst hp
    refine tpos (by simp) (tpos (by simp) (tpos (by rw [List.length_take]; omega) ?_))
    rw [wrap64_id (by omega) (by omega), show rd [(((rd_T54 l i).f1.toNat : Nat) : Int), (((rd_T54 l i).f2.toNat : Nat) : Int)] 0 = (rd_T54 l i).f1 by show (((rd_T54 l i).f1.toNat : Nat) : Int) = _; omega, show rd [(((rd_T54 l i).f1.toNat : Nat) : Int), (((rd_T54 l i).f2.toNat : Nat) : Int)] 1 = (rd_T54 l i).f2 by show (((rd_T54 l i).f2.toNat : Nat) : Int) = _; omega]
    have := ih (i + 1) (by omega) (by omega)
    rw [take_nt l i hi2] at this
    exact this
  · obtain rfl : i = l.length := by omega
    rw [List.take_length]
    refine tbind (scoreOf_tot l (by omega)) (fun r hr => ?_)
    rcases hr with ⟨_, rfl⟩ | ⟨h, _⟩
    · exact tsome rfl
    · exact absurd hg h
theorem implPS_loop (s : ByteArray) (hs : s.size ≤ 1048576) (hno : ∀ l : List S54, ntGood l → scB (l.map lnB) ≠ s.data.toList) (t : List ByteArray) (hsz : ∀ i : Int, (rdOf ByteArray.empty t i).size ≤ 1048576) (hl : t.length ≤ 30) (he : scB (t.map (·.data.toList)) = s.data.toList) :
    Tot (fun k => impl_ParseScore.l0 k [] t (t.length : Int) 0) (fun r => r = ([], false)) := by
  refine trec (σ := List S54 × Nat) (fun q k => impl_ParseScore.l0 k q.1 t (t.length : Int) (q.2 : Int)) (fun q => t.length - q.2) (fun q => q.2 ≤ t.length ∧ q.1.length = q.2 ∧ ((∀ e ∈ q.1, e.f0 ≠ 0) → q.1.map lnB = (t.map (·.data.toList)).take q.2)) (fun _ r => r = ([], false)) ?_ ([], 0) ⟨Nat.zero_le _, rfl, by simp⟩
  rintro ⟨acc, i⟩ ⟨h1, h2, h3⟩ ih
  dsimp only at h1 h2 h3 ⊢
  simp only [impl_ParseScore.l0]
  refine tite (fun c => ?_) (fun c => ?_)
  · have hi : i < t.length := by omega
    have z := hsz (i : Int)
    have hw := map_rd1 t _ rfl i hi
    have hb := bs_len (rdOf ByteArray.empty t (i : Int))
    have z1 := cut_len1 (rdOf ByteArray.empty t (i : Int)).data.toList 32
    refine tpos (by omega) (tpos c ?_)
    rw [cut_eq1 _ 32 (by omega)]
    simp only [Option.bind_some]
    refine tbind (numberLine_tot _ (by rw [toArr_size1]; omega)) (fun r2 g2 => ?_)
    refine tite (fun k1 => ?_) (fun _ => tsome rfl)
    refine tite (fun k2 => ?_) (fun _ => tsome rfl)
    obtain ⟨n1, n2⟩ := cut_true 32 _ k1
    obtain ⟨a, b, m1, m2⟩ := g2.2 k2
    rw [toArr1] at m2
    refine tbind (pitchNamed_tot _) (fun p hp => ?_)
    rw [toArr1] at hp
    rw [m1]
    refine tpos (by simp) (tpos (by simp) (tpos (by omega) ?_))
    rw [wrap64_id (by omega) (by omega)]
    have := ih (acc ++ [⟨p, rd [(a : Int), (b : Int)] 0, rd [(a : Int), (b : Int)] 1⟩], i + 1) ⟨by dsimp only; omega, by simp; omega, fun hne => ?_⟩ (by dsimp only; omega)
    · simpa using this
    · dsimp only at hne ⊢
      rw [List.map_append, h3 (fun e he => hne e (List.mem_append_left _ he)), List.map_cons, List.map_nil, List.take_add_one, List.getElem?_eq_getElem (by simpa using hi)]
      congr 1
      simp only [Option.toList_some, List.cons.injEq, and_true]
      have hp0 : p ≠ 0 := hne ⟨p, rd [(a : Int), (b : Int)] 0, rd [(a : Int), (b : Int)] 1⟩ (by simp)
      have e1 : lnB ⟨p, rd [(a : Int), (b : Int)] 0, rd [(a : Int), (b : Int)] 1⟩ = (rdOf ByteArray.empty t (i : Int)).data.toList := by
        cases hf : fpf (Lib.cut (rdOf ByteArray.empty t (i : Int)).data.toList [32]).1 73 24 with
        | none => rw [hf] at hp; exact absurd hp hp0
        | some q =>
          rw [hf] at hp
          simp only [Option.getD_some] at hp
          obtain ⟨q1, q2, q3⟩ := fpf_some _ _ _ _ hf
          unfold lnB
          show (pitchText p).data.toList ++ 32 :: ((decText ((a : Int)).toNat).data.toList ++ 32 :: (decText ((b : Int)).toNat).data.toList) = _
          rw [hp, q3, Int.toNat_natCast, Int.toNat_natCast, ← m2, ← n2]
      rw [e1, hw, List.getD_eq_getElem?_getD, List.getElem?_eq_getElem (by simpa using hi)]
      rfl
  · obtain rfl : i = t.length := by omega
    rw [List.take_of_length_le (by simp)] at h3
    refine tbind (scoreOf_tot acc (by omega)) (fun r hr => ?_)
    rcases hr with ⟨hg, _⟩ | ⟨_, rfl⟩
    · have h4 := h3 (fun e he => by have := good_mem acc hg e he; unfold OkNote at this; omega)
      exact absurd (by rw [h4, he]) (hno acc hg)
    · exact tsome rfl
theorem implPS_miss (s : ByteArray) (hs : s.size ≤ 1048576) (hno : ∀ l : List S54, ntGood l → scB (l.map lnB) ≠ s.data.toList) : Tot (fun k => impl_ParseScore.f k s) (fun r => r = ([], false)) := by
  have hlen := bs_len s
  have h0 : s.data.toList ≠ [] := fun e => hno [] ⟨fun j h0 h1 => absurd h1 (by simp; omega), by simp⟩ e.symm
  have hF : ∀ t : List ByteArray, Tot (fun k => impl_ParseScore.j0 k t true) (fun r => r = ([], false)) := fun t => by
    refine tstep ?_
    simp only [impl_ParseScore.j0]
    exact tpos trivial (tsome rfl)
  unfold impl_ParseScore.f
  by_cases h : ∃ p, s.data.toList = p ++ [10]
  · obtain ⟨p, hp⟩ := h
    obtain ⟨t, h1, ht⟩ := textLines_hit s hs p hp
    rw [h1]
    simp only [Option.bind_some]
    refine tpos (by trivial) ?_
    by_cases c30 : (t.length : Int) > 30
    · rw [decide_eq_true c30]; exact hF t
    · rw [decide_eq_false c30]
      refine tstep ?_
      simp only [impl_ParseScore.j0]
      refine tneg (by simp) ?_
      have hpl : p.length + 1 = s.size := by have := congrArg List.length hp; simp at this; omega
      refine implPS_loop s hs hno t (fun i => by have := rd_mem_size1 ht i; omega) (by omega) ?_
      rw [ht, sc_join _ (sp_ne 10 p), sp_join, hp]
  · rw [textLines_no s hs h0 h]
    simp only [Option.bind_some]
    exact tneg (by simp) (hF _)
theorem parseScore_agree (s : ByteArray) (hs : s.size ≤ 1048576) : ∃ r, Tot (fun k => spec_ParseScore.f k s) (fun y => y = r) ∧ Tot (fun k => impl_ParseScore.f k s) (fun y => y = r) ∧ r.1.length ≤ 1048576 := by
  by_cases h : ∃ l : List S54, ntGood l ∧ scB (l.map lnB) = s.data.toList
  · obtain ⟨l, hg, he⟩ := h
    exact ⟨(l, true), specPS_hit s hs l hg he, implPS_hit s hs l hg he, by have := hg.2; dsimp only; omega⟩
  · have hno : ∀ l : List S54, ntGood l → scB (l.map lnB) ≠ s.data.toList := fun l hg he => h ⟨l, hg, he⟩
    exact ⟨([], false), specPS_miss s hs hno, implPS_miss s hs hno, Nat.zero_le _⟩


theorem FnExactParseScore (a0 : ByteArray) (w0 : a0.size ≤ 140737488351232) : ∃ k, laws_FnExactParseScore.f k a0 = some true := by
  refine rounds ?_
  unfold laws_FnExactParseScore.f
  by_cases hl0 : (a0.size : Int) > 1048576
  · simp only [if_pos hl0]; exact tsome rfl
  simp only [if_neg hl0]
  obtain ⟨r, hS, hI, hR⟩ := parseScore_agree a0 (by omega)
  repeat first
    | exact tsome rfl
    | (refine tbind hS (fun _ e => ?_); subst e)
    | (refine tbind hI (fun _ e => ?_); subst e)
    | (refine tbind (eqNoteS _ (by first | assumption | omega | (dsimp only; omega) | (simp; omega))) (fun _ e => ?_); subst e)
    | (refine tbind (markNoteS _ 1 (by first | assumption | omega | (dsimp only; omega) | (simp; omega)) (by omega) (by omega)) (fun _ e => ?_); subst e)
    | (refine tbind (heldNoteS 1 _ (by first | omega | (simp; omega)) (by omega) (by omega)) (fun _ e => ?_); subst e)
    | refine tpos rfl ?_
    | refine tneg (by dsimp only; omega) ?_
    | refine tneg (by omega) ?_
    | refine tneg (by simp; done) ?_
    | refine tpos (by dsimp only) ?_
    | (refine tstep ?_; simp only [laws_FnExactParseScore.j0])
    | (refine tstep ?_; simp only [laws_FnExactParseScore.j1])
end Go.Proofs.YtgeipgflhjakjaaDoor.Pure
