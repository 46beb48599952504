/- The plain side of the law FnExactLengthOfSheet: lists and numbers alone. -/
import Derived.Test.YtfpfjnmjekjnhaaPFnExactLengthOfSheetx5
import Derived.Test.YtfpfjnmjekjnhaaGlue
import Derived.Test.YtfpfjnmjekjnhaaTot
set_option linter.unusedVariables false
set_option linter.unusedSimpArgs false
namespace Go.Proofs.Ytfpfjnmjekjnhaa.Pure
open Go.RowKit Go.Proofs.Ytfpfjnmjekjnhaa.PFnExactLengthOfSheet Go.Proofs.YtfpfjnmjekjnhaaW.PrintWords Go.Proofs.YtfpfjnmjekjnhaaW.PrintMore Go.Proofs.Ytfpfjnmjekjnhaa.Tot

theorem l1In_eq (a b c : Int) : spec_l1In.f a b c = some (decide (b ≤ a ∧ a ≤ c)) := by
  unfold spec_l1In.f
  by_cases h : b ≤ a <;> simp [h]

def cvHole (x : S71) : S69 := ⟨x.f0, x.f1, x.f2⟩
theorem toHoleS (l : List S71) (hl : l.length ≤ 1048576) : Tot (fun k => laws_toHoleS.f k l) (fun r => r = l.map cvHole) := by
  unfold laws_toHoleS.f
  refine tpos (by omega) (tpos (by omega) ?_)
  have key := trec (σ := List S69 × Int) (fun s k => laws_toHoleS.l0 k l s.1 s.2) (fun s => ((l.length : Int) - s.2).toNat)
    (fun s => 0 ≤ s.2 ∧ s.2 ≤ (l.length : Int) ∧ s.1.length = l.length ∧ ∀ j : Int, 0 ≤ j → j < s.2 → s.1.getD j.toNat z69 = cvHole (l.getD j.toNat z71)) (fun _ r => r = l.map cvHole) ?_
  · exact key (List.replicate (l.length : Int).toNat z69, 0) ⟨Int.le_refl _, by dsimp only; omega, by simp, fun j h0 h1 => by dsimp only at h1; omega⟩
  · rintro ⟨ys, i⟩ ⟨h0, h1, h2, h3⟩ ih
    dsimp only at h0 h1 h2 h3
    simp only [laws_toHoleS.l0, laws_toHole.f, Option.bind_some]
    refine tite (fun c => ?_) (fun c => ?_)
    · refine tpos h0 (tpos (by omega) ?_)
      rw [wrap64_id (by omega) (by omega)]
      refine ih (_, i + 1) ⟨by dsimp only; omega, by dsimp only; omega, by simp [h2], ?_⟩ (by dsimp only; omega)
      intro j hj0 hj1
      dsimp only at hj1 ⊢
      by_cases e : j = i
      · subst e; rw [ld_set_self _ _ (by omega) hj0]; rfl
      · rw [ld_set_ne _ _ _ h0 hj0 (by omega)]; exact h3 j hj0 (by omega)
    · exact tsome (write_end h2 (fun j a b => h3 j a (by omega)))

theorem eqHoleS (l : List S69) (hl : l.length ≤ 1048576) : Tot (fun k => laws_eqHoleS.f k l l) (fun r => r = true) := by
  unfold laws_eqHoleS.f
  refine tpos rfl ?_
  refine trec (σ := Int) (fun i k => laws_eqHoleS.l0 k l l i) (fun i => ((l.length : Int) - i).toNat) (fun i => 0 ≤ i ∧ i ≤ (l.length : Int)) (fun _ r => r = true) ?_ 0 ⟨Int.le_refl _, by omega⟩
  rintro i ⟨h0, h1⟩ ih
  simp only [laws_eqHoleS.l0, laws_eqHole.f, if_true, Option.bind_some]
  refine tite (fun c => ?_) (fun c => tsome rfl)
  refine tpos h0 (tpos (by omega) ?_)
  rw [wrap64_id (by omega) (by omega)]
  exact ih (i + 1) ⟨by omega, by omega⟩ (by (try dsimp only); omega)

theorem szHoleS (l : List S71) (n : Int) (hn : 0 ≤ n) (hn2 : n ≤ 1048576) (hl : l.length ≤ 9223372036854775807) : laws_szHoleS.f l n = some (if n < l.length then -1 else n - l.length) := by
  unfold laws_szHoleS.f
  simp (disch := omega) only [wrap64_id]
  by_cases h : n < l.length
  · rw [if_pos (by omega), if_pos h]
  · rw [if_neg (by omega), if_neg h]

abbrev OkHole (a b c : Int) : Prop := 0 ≤ a ∧ a ≤ 19 ∧ 0 ≤ b ∧ b < c ∧ c ≤ 2000
theorem shHole_eq (a b c : Int) : spec_shHole.f a b c = some (decide (OkHole a b c)) := by
  unfold spec_shHole.f OkHole
  simp only [l1In_eq, Option.bind_some, decide_eq_true_eq]
  split
  · split
    · rw [wrap64_id (by omega) (by omega)]
      congr 1; rw [Bool.eq_iff_iff]; simp only [decide_eq_true_eq]; omega
    · congr 1; rw [Bool.eq_iff_iff]; simp only [decide_eq_true_eq]; simp; omega
  · congr 1; rw [Bool.eq_iff_iff]; simp only [decide_eq_true_eq]; simp; omega
theorem implIsHole_eq (a b c : Int) : impl_IsHole.f a b c = some (decide (OkHole a b c)) := by
  unfold impl_IsHole.f impl_isTrack.f OkHole
  by_cases h1 : 0 ≤ a <;> by_cases h2 : a < 20 <;> by_cases h3 : 0 ≤ b <;> by_cases h4 : b < c <;> simp [h1, h2, h3, h4] <;> omega

def shLess (x y : S69) : Prop := x.f1 < y.f1 ∨ (x.f1 = y.f1 ∧ x.f0 < y.f0)
def shMeet (x y : S69) : Prop := x.f0 = y.f0 ∧ y.f1 ≤ x.f2
def shA (l : List S69) (j : Int) : Prop := OkHole (rd_T69 l j).f0 (rd_T69 l j).f1 (rd_T69 l j).f2 ∧ (0 < j → shLess (rd_T69 l (j - 1)) (rd_T69 l j))
def shC (l : List S69) (j : Int) : Prop := OkHole (rd_T69 l j).f0 (rd_T69 l j).f1 (rd_T69 l j).f2 ∧ (0 < j → shLess (rd_T69 l (j - 1)) (rd_T69 l j)) ∧ (∀ p : Int, 0 ≤ p → p < j → ¬ shMeet (rd_T69 l p) (rd_T69 l j))
theorem sh_take (l : List S69) (i p : Int) (h0 : 0 ≤ p) (h : p < i) : rd_T69 (l.take i.toNat) p = rd_T69 l p := by
  unfold rd_T69
  exact ld_take i.toNat p h0 (by omega)
theorem sh_start (l : List S69) (i : Int) (hp : ∀ j : Int, 0 ≤ j → j < i → shC l j) (hi : 0 < i → shLess (rd_T69 l (i - 1)) (rd_T69 l i)) (p : Int) (p0 : 0 ≤ p) (p1 : p < i) : (rd_T69 l p).f1 ≤ (rd_T69 l i).f1 := by
  have key : ∀ (d : Nat) (j : Int), j = p + d → j ≤ i → (rd_T69 l p).f1 ≤ (rd_T69 l j).f1 := by
    intro d
    induction d with
    | zero => intro j e _; rw [show j = p by omega]; exact Int.le_refl _
    | succ d ih =>
      intro j e h
      have h1 := ih (j - 1) (by omega) (by omega)
      have h2 : shLess (rd_T69 l (j - 1)) (rd_T69 l j) := by
        by_cases e2 : j = i
        · rw [e2]; exact hi (by omega)
        · exact (hp j (by omega) (by omega)).2.1 (by omega)
      unfold shLess at h2
      omega
  exact key (i - p).toNat i (by omega) (Int.le_refl _)

def shGood (l : List S69) : Prop := (∀ j : Int, 0 ≤ j → j < (l.length : Int) → shC l j) ∧ (l.length : Int) ≤ 60
theorem shBefore_eq (a b c d e f : Int) : spec_shBefore.f a b c d e f = some (decide (b < e ∨ (b = e ∧ a < d))) := by
  unfold spec_shBefore.f
  by_cases h1 : b < e <;> by_cases h2 : b = e <;> simp [h1, h2]
theorem holeLess_eq (a b c d e f : Int) : impl_holeLess.f a b c d e f = some (decide (b < e ∨ (b = e ∧ a < d))) := by
  unfold impl_holeLess.f
  by_cases h2 : b = e
  · subst h2; simp
  · simp [h2]

theorem sh_spec_shGood_loop (l : List S69) (hl : l.length ≤ 1048576) : Tot (fun k => spec_shGood.l0 k l l (l.length : Int) 0) (fun b => (b = true) ↔ ((∀ j : Int, 0 ≤ j → j < (l.length : Int) → shC l j) ∧ (l.length : Int) ≤ 60)) := by
  refine trec (σ := Int) (fun i k => spec_shGood.l0 k l l (l.length : Int) i) (fun i => ((l.length : Int) - i).toNat) (fun i => 0 ≤ i ∧ i ≤ (l.length : Int) ∧ ∀ j : Int, 0 ≤ j → j < i → shC l j)
    (fun i b => (b = true) ↔ ((∀ j : Int, i ≤ j → j < (l.length : Int) → shC l j) ∧ (l.length : Int) ≤ 60)) ?_ 0 ⟨Int.le_refl _, by omega, fun j a b => by omega⟩
  rintro i ⟨h0, h1, hp⟩ ih
  have hno : i < (l.length : Int) → ¬ shC l i → Tot (fun _ => some false) (fun b => (b = true) ↔ ((∀ j : Int, i ≤ j → j < (l.length : Int) → shC l j) ∧ (l.length : Int) ≤ 60)) := fun a b => tsome (all_no a b)
  have hjT : i < (l.length : Int) → ¬ shA l i → Tot (fun k => spec_shGood.j1 k l i l (l.length : Int) i true (rd_T69 l i).f0 (rd_T69 l i).f1 (rd_T69 l i).f2) (fun b => (b = true) ↔ ((∀ j : Int, i ≤ j → j < (l.length : Int) → shC l j) ∧ (l.length : Int) ≤ 60)) := by
    intro a b
    refine tstep ?_
    simp only [spec_shGood.j1, if_true]
    exact hno a (fun h => b ⟨h.1, h.2.1⟩)
  have hjF : i < (l.length : Int) → shA l i → Tot (fun k => spec_shGood.j1 k l i l (l.length : Int) i false (rd_T69 l i).f0 (rd_T69 l i).f1 (rd_T69 l i).f2) (fun b => (b = true) ↔ ((∀ j : Int, i ≤ j → j < (l.length : Int) → shC l j) ∧ (l.length : Int) ≤ 60)) := by
    intro a hA
    refine tstep ?_
    simp only [spec_shGood.j1, Option.bind_some]
    refine tneg (by simp) (tpos h0 (tpos h1 ?_))
    have hlen : ((l.take i.toNat).length : Int) = i := by simp; omega
    rw [hlen]
    refine trec (σ := Int) (fun p k => spec_shGood.l1 k l l (l.length : Int) i (l.take i.toNat) i p (rd_T69 l i).f0 (rd_T69 l i).f1 (rd_T69 l i).f2) (fun p => (i - p).toNat) (fun p => 0 ≤ p ∧ p ≤ i ∧ ∀ q : Int, 0 ≤ q → q < p → ¬ shMeet (rd_T69 l q) (rd_T69 l i))
      (fun _ => (fun b => (b = true) ↔ ((∀ j : Int, i ≤ j → j < (l.length : Int) → shC l j) ∧ (l.length : Int) ≤ 60))) ?_ 0 ⟨Int.le_refl _, h0, fun q a b => by omega⟩
    rintro p ⟨p0, p1, pq⟩ ihp
    simp only [spec_shGood.l1, hlen, wrap64_id (show -9223372036854775808 ≤ i + 1 by omega) (by omega), wrap64_id (show -9223372036854775808 ≤ p + 1 by omega) (by omega)]
    refine tite (fun c => ?_) (fun c => ?_)
    · refine tpos p0 (tpos c ?_)
      simp only [sh_take l i p p0 c]
      have hs := sh_start l i hp hA.2 p p0 c
      have o1 := (hp p p0 c).1
      have o2 := hA.1
      skip
      have go : ¬ shMeet (rd_T69 l p) (rd_T69 l i) → Tot (fun k => spec_shGood.l1 k l l (l.length : Int) i (l.take i.toNat) i (p + 1) (rd_T69 l i).f0 (rd_T69 l i).f1 (rd_T69 l i).f2) (fun b => (b = true) ↔ ((∀ j : Int, i ≤ j → j < (l.length : Int) → shC l j) ∧ (l.length : Int) ≤ 60)) := fun hm =>
        ihp (p + 1) ⟨by omega, by omega, fun q q0 q1 => by
          by_cases e : q = p
          · rw [e]; exact hm
          · exact pq q q0 (by omega)⟩ (by (try dsimp only); omega)
      repeat' (refine tite (fun _ => ?_) (fun _ => ?_))
      all_goals first
        | exact go (by unfold shMeet; omega)
        | exact hno a (fun h => h.2.2 p p0 c (by unfold shMeet; omega))
    · have Ci : shC l i := ⟨hA.1, hA.2, fun q q0 q1 => pq q q0 (by omega)⟩
      exact tmono (ih (i + 1) ⟨by omega, by omega, fun j j0 j1 => by
        by_cases e : j = i
        · rw [e]; exact Ci
        · exact hp j j0 (by omega)⟩ (by (try dsimp only); omega)) (fun b hb => all_go a Ci hb)
  simp only [spec_shGood.l0, shHole_eq, shBefore_eq, Option.bind_some, decide_eq_true_eq]
  simp only [show wrap64 (i - 1) = i - 1 from wrap64_id (by omega) (by omega)]
  by_cases hL : shLess (rd_T69 l (i - 1)) (rd_T69 l i)
  all_goals
    have hL2 := hL
    unfold shLess at hL2
    simp only [hL2, decide_true, decide_false, Bool.not_true, Bool.not_false]
    repeat' (refine tite (fun _ => ?_) (fun _ => ?_))
    all_goals first
      | (exfalso; omega)
      | exact hjF (by omega) ⟨by assumption, fun _ => hL⟩
      | exact hjF (by omega) ⟨by assumption, fun h => absurd h (by omega)⟩
      | exact hjT (by omega) (fun h => absurd h.1 (by assumption))
      | exact hjT (by omega) (fun h => absurd (h.2 (by omega)) hL)
      | exact tsome (all_end (by omega) (by simp only [decide_eq_true_eq]))

theorem sh_impl_IsSheet_loop (l : List S69) (hl : l.length ≤ 1048576) : Tot (fun k => impl_IsSheet.l0 k l l (l.length : Int) 0) (fun b => (b = true) ↔ ((∀ j : Int, 0 ≤ j → j < (l.length : Int) → shC l j) ∧ True)) := by
  refine trec (σ := Int) (fun i k => impl_IsSheet.l0 k l l (l.length : Int) i) (fun i => ((l.length : Int) - i).toNat) (fun i => 0 ≤ i ∧ i ≤ (l.length : Int) ∧ ∀ j : Int, 0 ≤ j → j < i → shC l j)
    (fun i b => (b = true) ↔ ((∀ j : Int, i ≤ j → j < (l.length : Int) → shC l j) ∧ True)) ?_ 0 ⟨Int.le_refl _, by omega, fun j a b => by omega⟩
  rintro i ⟨h0, h1, hp⟩ ih
  have hno : i < (l.length : Int) → ¬ shC l i → Tot (fun _ => some false) (fun b => (b = true) ↔ ((∀ j : Int, i ≤ j → j < (l.length : Int) → shC l j) ∧ True)) := fun a b => tsome (all_no a b)
  have hjT : i < (l.length : Int) → ¬ shA l i → Tot (fun k => impl_IsSheet.j1 k l i l (l.length : Int) i true (rd_T69 l i).f0 (rd_T69 l i).f1 (rd_T69 l i).f2) (fun b => (b = true) ↔ ((∀ j : Int, i ≤ j → j < (l.length : Int) → shC l j) ∧ True)) := by
    intro a b
    refine tstep ?_
    simp only [impl_IsSheet.j1, if_true]
    exact hno a (fun h => b ⟨h.1, h.2.1⟩)
  have hjF : i < (l.length : Int) → shA l i → Tot (fun k => impl_IsSheet.j1 k l i l (l.length : Int) i false (rd_T69 l i).f0 (rd_T69 l i).f1 (rd_T69 l i).f2) (fun b => (b = true) ↔ ((∀ j : Int, i ≤ j → j < (l.length : Int) → shC l j) ∧ True)) := by
    intro a hA
    refine tstep ?_
    simp only [impl_IsSheet.j1, Option.bind_some]
    refine tneg (by simp) (tpos h0 (tpos h1 ?_))
    have hlen : ((l.take i.toNat).length : Int) = i := by simp; omega
    rw [hlen]
    refine trec (σ := Int) (fun p k => impl_IsSheet.l1 k l l (l.length : Int) i (l.take i.toNat) i p (rd_T69 l i).f0 (rd_T69 l i).f1 (rd_T69 l i).f2) (fun p => (i - p).toNat) (fun p => 0 ≤ p ∧ p ≤ i ∧ ∀ q : Int, 0 ≤ q → q < p → ¬ shMeet (rd_T69 l q) (rd_T69 l i))
      (fun _ => (fun b => (b = true) ↔ ((∀ j : Int, i ≤ j → j < (l.length : Int) → shC l j) ∧ True))) ?_ 0 ⟨Int.le_refl _, h0, fun q a b => by omega⟩
    rintro p ⟨p0, p1, pq⟩ ihp
    simp only [impl_IsSheet.l1, hlen, wrap64_id (show -9223372036854775808 ≤ i + 1 by omega) (by omega), wrap64_id (show -9223372036854775808 ≤ p + 1 by omega) (by omega)]
    refine tite (fun c => ?_) (fun c => ?_)
    · refine tpos p0 (tpos c ?_)
      simp only [sh_take l i p p0 c]
      have hs := sh_start l i hp hA.2 p p0 c
      have o1 := (hp p p0 c).1
      have o2 := hA.1
      skip
      have go : ¬ shMeet (rd_T69 l p) (rd_T69 l i) → Tot (fun k => impl_IsSheet.l1 k l l (l.length : Int) i (l.take i.toNat) i (p + 1) (rd_T69 l i).f0 (rd_T69 l i).f1 (rd_T69 l i).f2) (fun b => (b = true) ↔ ((∀ j : Int, i ≤ j → j < (l.length : Int) → shC l j) ∧ True)) := fun hm =>
        ihp (p + 1) ⟨by omega, by omega, fun q q0 q1 => by
          by_cases e : q = p
          · rw [e]; exact hm
          · exact pq q q0 (by omega)⟩ (by (try dsimp only); omega)
      repeat' (refine tite (fun _ => ?_) (fun _ => ?_))
      all_goals first
        | exact go (by unfold shMeet; omega)
        | exact hno a (fun h => h.2.2 p p0 c (by unfold shMeet; omega))
    · have Ci : shC l i := ⟨hA.1, hA.2, fun q q0 q1 => pq q q0 (by omega)⟩
      exact tmono (ih (i + 1) ⟨by omega, by omega, fun j j0 j1 => by
        by_cases e : j = i
        · rw [e]; exact Ci
        · exact hp j j0 (by omega)⟩ (by (try dsimp only); omega)) (fun b hb => all_go a Ci hb)
  simp only [impl_IsSheet.l0, implIsHole_eq, holeLess_eq, Option.bind_some, decide_eq_true_eq]
  simp only [show wrap64 (i - 1) = i - 1 from wrap64_id (by omega) (by omega)]
  by_cases hL : shLess (rd_T69 l (i - 1)) (rd_T69 l i)
  all_goals
    have hL2 := hL
    unfold shLess at hL2
    simp only [hL2, decide_true, decide_false, Bool.not_true, Bool.not_false]
    repeat' (refine tite (fun _ => ?_) (fun _ => ?_))
    all_goals first
      | (exfalso; omega)
      | exact hjF (by omega) ⟨by assumption, fun _ => hL⟩
      | exact hjF (by omega) ⟨by assumption, fun h => absurd h (by omega)⟩
      | exact hjT (by omega) (fun h => absurd h.1 (by assumption))
      | exact hjT (by omega) (fun h => absurd (h.2 (by omega)) hL)
      | exact tsome (all_end (by omega) (by simp))

theorem shGood_tot (l : List S69) (hl : l.length ≤ 1048576) : Tot (fun k => spec_shGood.f k l) (fun b => (b = true) ↔ shGood l) := by
  unfold spec_shGood.f
  exact sh_spec_shGood_loop l hl
theorem isSheet_tot (l : List S69) (hl : l.length ≤ 1048576) : Tot (fun k => impl_IsSheet.f k l) (fun b => (b = true) ↔ shGood l) := by
  unfold impl_IsSheet.f shGood
  refine tite (fun c => tsome ⟨(fun h => by simp at h), (fun h => by have := h.2; omega)⟩) (fun c => ?_)
  refine tmono (sh_impl_IsSheet_loop l hl) (fun b hb => ?_)
  rw [hb]
  exact ⟨fun h => ⟨h.1, by omega⟩, fun h => ⟨h.1, trivial⟩⟩

theorem l1Most_eq (a b : Int) : spec_l1Most.f a b = some (mx a b) := by
  unfold spec_l1Most.f mx
  by_cases h : a > b
  · rw [if_pos h, if_neg (by omega)]
  · rw [if_neg h]
    by_cases h2 : a < b
    · rw [if_pos h2]
    · rw [if_neg h2]
      congr 1; omega

def shEnd (l : List S69) : Nat → Int
  | 0 => 0
  | i + 1 => mx (shEnd l i) (rd_T69 l i).f2

theorem shLength_tot (l : List S69) (hl : l.length ≤ 1048576) : Tot (fun k => spec_shLength.f k l) (fun r => r = shEnd l l.length) := by
  unfold spec_shLength.f
  refine trec (σ := Nat) (fun i k => spec_shLength.l0 k (shEnd l i) l (l.length : Int) (i : Int)) (fun i => l.length - i) (fun i => i ≤ l.length) (fun _ r => r = shEnd l l.length) ?_ 0 (Nat.zero_le _)
  intro i hi ih
  simp only [spec_shLength.l0, l1Most_eq, Option.bind_some, wrap64_id (x := (i : Int) + 1) (by omega) (by omega)]
  refine tite (fun c => ?_) (fun c => tsome (by rw [show i = l.length by omega]))
  refine tpos (by omega) (tpos c ?_)
  have := ih (i + 1) (by omega) (by omega)
  simpa [shEnd] using this

theorem sheetLength_tot (l : List S69) (hl : l.length ≤ 1048576) : Tot (fun k => impl_sheetLength.f k l) (fun r => r = shEnd l l.length) := by
  unfold impl_sheetLength.f
  refine trec (σ := Nat) (fun i k => impl_sheetLength.l0 k (shEnd l i) l (l.length : Int) (i : Int)) (fun i => l.length - i) (fun i => i ≤ l.length) (fun _ r => r = shEnd l l.length) ?_ 0 (Nat.zero_le _)
  intro i hi ih
  simp only [impl_sheetLength.l0, wrap64_id (x := (i : Int) + 1) (by omega) (by omega)]
  refine tite (fun c => ?_) (fun c => tsome (by rw [show i = l.length by omega]))
  refine tpos (by omega) (tpos c ?_)
  have := ih (i + 1) (by omega) (by omega)
  simpa [shEnd] using this

theorem lengthOfSheet_agree (l : List S69) (hl : l.length ≤ 1048576) : ∃ r, Tot (fun k => spec_LengthOfSheet.f k l) (fun y => y = r) ∧ Tot (fun k => impl_LengthOfSheet.f k l) (fun y => y = r) := by
  by_cases hg : shGood l
  · refine ⟨(shEnd l l.length, true), ?_, ?_⟩
    · unfold spec_LengthOfSheet.f
      refine tbind (shGood_tot l hl) (fun b hb => tpos (hb.2 hg) ?_)
      refine tbind (shLength_tot l hl) (fun _ e => ?_); subst e
      exact tsome rfl
    · unfold impl_LengthOfSheet.f
      refine tbind (isSheet_tot l hl) (fun b hb => tpos (hb.2 hg) ?_)
      refine tbind (sheetLength_tot l hl) (fun _ e => ?_); subst e
      exact tsome rfl
  · refine ⟨(0, false), ?_, ?_⟩
    · unfold spec_LengthOfSheet.f
      exact tbind (shGood_tot l hl) (fun b hb => tneg (fun h => hg (hb.1 h)) (tsome rfl))
    · unfold impl_LengthOfSheet.f
      exact tbind (isSheet_tot l hl) (fun b hb => tneg (fun h => hg (hb.1 h)) (tsome rfl))


theorem FnExactLengthOfSheet (l0 : List (S71)) (hm0 : l0.length ≤ 9223372036854775807) (hw0 : ∀ y ∈ l0, Glue.wf64 y.f0 ∧ Glue.wf64 y.f1 ∧ Glue.wf64 y.f2) : ∃ k, laws_FnExactLengthOfSheet.f k l0 = some true := by
  refine rounds ?_
  unfold laws_FnExactLengthOfSheet.f
  rw [szHoleS l0 (1048576 : Int) (by omega) (by omega) hm0]
  simp only [Option.bind_some]
  by_cases hl0 : (1048576 : Int) < (l0.length : Int)
  · simp only [if_pos hl0]; exact tpos (by omega) (tsome rfl)
  simp only [if_neg hl0]
  refine tneg (by omega) ?_
  obtain ⟨r, hS, hI⟩ := lengthOfSheet_agree (l0.map cvHole) (by simp; omega)
  repeat first
    | exact tsome rfl
    | (refine tbind hS (fun _ e => ?_); subst e)
    | (refine tbind hI (fun _ e => ?_); subst e)
    | (refine tbind (toHoleS l0 (by omega)) (fun _ e => ?_); subst e)
    | (refine tbind (eqHoleS _ (by first | omega | (dsimp only; omega) | (simp; omega) | assumption)) (fun _ e => ?_); subst e)
    | refine tpos rfl ?_
    | refine tneg (by simp) ?_
    | refine tneg (by dsimp only; omega) ?_
    | refine tpos (by dsimp only) ?_
    | (refine tstep ?_; simp only [laws_FnExactLengthOfSheet.j0])
end Go.Proofs.Ytfpfjnmjekjnhaa.Pure
