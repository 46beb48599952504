/- The plain side of the law FnExactLeastWeb: lists and numbers alone. -/
import Derived.Test.YtfpfjnmjekjnhaaPFnExactLeastWebx5
import Derived.Test.YtfpfjnmjekjnhaaGlue
import Derived.Test.YtfpfjnmjekjnhaaTot
set_option linter.unusedVariables false
set_option linter.unusedSimpArgs false
namespace Go.Proofs.Ytfpfjnmjekjnhaa.Pure
open Go.RowKit Go.Proofs.Ytfpfjnmjekjnhaa.PFnExactLeastWeb Go.Proofs.YtfpfjnmjekjnhaaW.PrintWords Go.Proofs.YtfpfjnmjekjnhaaW.PrintMore Go.Proofs.Ytfpfjnmjekjnhaa.Tot

theorem l1In_eq (a b c : Int) : spec_l1In.f a b c = some (decide (b ≤ a ∧ a ≤ c)) := by
  unfold spec_l1In.f
  by_cases h : b ≤ a <;> simp [h]

def cvHole (x : S71) : S69 := ⟨x.f0, x.f1, x.f2⟩
theorem toHoleS (l : List S71) (hl : l.length ≤ 1048576) : Tot (fun k => laws_toHoleS.f k l) (fun r => r = l.map cvHole) := by
  unfold laws_toHoleS.f
  refine tpos (by omega) (tpos (by omega) ?_)
  have key := trec (σ := List S69 × Int) (fun s k => laws_toHoleS.l0 k l s.1 s.2) (fun s => ((l.length : Int) - s.2).toNat)
    (fun s => 0 ≤ s.2 ∧ s.2 ≤ (l.length : Int) ∧ s.1.length = l.length ∧ ∀ j : Int, 0 ≤ j → j < s.2 → s.1.getD j.toNat z69 = cvHole (l.getD j.toNat z71)) (fun _ r => r = l.map cvHole) ?_
  · exact key (List.replicate (l.length : Int).toNat z69, 0) ⟨Int.le_refl _, by dsimp only; omega, by simp, fun j h0 h1 => by dsimp only at h1; omega⟩
  · rintro ⟨ys, i⟩ ⟨h0, h1, h2, h3⟩ ih
    dsimp only at h0 h1 h2 h3
    simp only [laws_toHoleS.l0, laws_toHole.f, Option.bind_some]
    refine tite (fun c => ?_) (fun c => ?_)
    · refine tpos h0 (tpos (by omega) ?_)
      rw [wrap64_id (by omega) (by omega)]
      refine ih (_, i + 1) ⟨by dsimp only; omega, by dsimp only; omega, by simp [h2], ?_⟩ (by dsimp only; omega)
      intro j hj0 hj1
      dsimp only at hj1 ⊢
      by_cases e : j = i
      · subst e; rw [ld_set_self _ _ (by omega) hj0]; rfl
      · rw [ld_set_ne _ _ _ h0 hj0 (by omega)]; exact h3 j hj0 (by omega)
    · exact tsome (write_end h2 (fun j a b => h3 j a (by omega)))

theorem eqHoleS (l : List S69) (hl : l.length ≤ 1048576) : Tot (fun k => laws_eqHoleS.f k l l) (fun r => r = true) := by
  unfold laws_eqHoleS.f
  refine tpos rfl ?_
  refine trec (σ := Int) (fun i k => laws_eqHoleS.l0 k l l i) (fun i => ((l.length : Int) - i).toNat) (fun i => 0 ≤ i ∧ i ≤ (l.length : Int)) (fun _ r => r = true) ?_ 0 ⟨Int.le_refl _, by omega⟩
  rintro i ⟨h0, h1⟩ ih
  simp only [laws_eqHoleS.l0, laws_eqHole.f, if_true, Option.bind_some]
  refine tite (fun c => ?_) (fun c => tsome rfl)
  refine tpos h0 (tpos (by omega) ?_)
  rw [wrap64_id (by omega) (by omega)]
  exact ih (i + 1) ⟨by omega, by omega⟩ (by (try dsimp only); omega)

theorem szHoleS (l : List S71) (n : Int) (hn : 0 ≤ n) (hn2 : n ≤ 1048576) (hl : l.length ≤ 9223372036854775807) : laws_szHoleS.f l n = some (if n < l.length then -1 else n - l.length) := by
  unfold laws_szHoleS.f
  simp (disch := omega) only [wrap64_id]
  by_cases h : n < l.length
  · rw [if_pos (by omega), if_pos h]
  · rw [if_neg (by omega), if_neg h]

abbrev OkHole (a b c : Int) : Prop := 0 ≤ a ∧ a ≤ 19 ∧ 0 ≤ b ∧ b < c ∧ c ≤ 2000
theorem shHole_eq (a b c : Int) : spec_shHole.f a b c = some (decide (OkHole a b c)) := by
  unfold spec_shHole.f OkHole
  simp only [l1In_eq, Option.bind_some, decide_eq_true_eq]
  split
  · split
    · rw [wrap64_id (by omega) (by omega)]
      congr 1; rw [Bool.eq_iff_iff]; simp only [decide_eq_true_eq]; omega
    · congr 1; rw [Bool.eq_iff_iff]; simp only [decide_eq_true_eq]; simp; omega
  · congr 1; rw [Bool.eq_iff_iff]; simp only [decide_eq_true_eq]; simp; omega
theorem implIsHole_eq (a b c : Int) : impl_IsHole.f a b c = some (decide (OkHole a b c)) := by
  unfold impl_IsHole.f impl_isTrack.f OkHole
  by_cases h1 : 0 ≤ a <;> by_cases h2 : a < 20 <;> by_cases h3 : 0 ≤ b <;> by_cases h4 : b < c <;> simp [h1, h2, h3, h4] <;> omega

def shLess (x y : S69) : Prop := x.f1 < y.f1 ∨ (x.f1 = y.f1 ∧ x.f0 < y.f0)
def shMeet (x y : S69) : Prop := x.f0 = y.f0 ∧ y.f1 ≤ x.f2
def shA (l : List S69) (j : Int) : Prop := OkHole (rd_T69 l j).f0 (rd_T69 l j).f1 (rd_T69 l j).f2 ∧ (0 < j → shLess (rd_T69 l (j - 1)) (rd_T69 l j))
def shC (l : List S69) (j : Int) : Prop := OkHole (rd_T69 l j).f0 (rd_T69 l j).f1 (rd_T69 l j).f2 ∧ (0 < j → shLess (rd_T69 l (j - 1)) (rd_T69 l j)) ∧ (∀ p : Int, 0 ≤ p → p < j → ¬ shMeet (rd_T69 l p) (rd_T69 l j))
theorem sh_take (l : List S69) (i p : Int) (h0 : 0 ≤ p) (h : p < i) : rd_T69 (l.take i.toNat) p = rd_T69 l p := by
  unfold rd_T69
  exact ld_take i.toNat p h0 (by omega)
theorem sh_start (l : List S69) (i : Int) (hp : ∀ j : Int, 0 ≤ j → j < i → shC l j) (hi : 0 < i → shLess (rd_T69 l (i - 1)) (rd_T69 l i)) (p : Int) (p0 : 0 ≤ p) (p1 : p < i) : (rd_T69 l p).f1 ≤ (rd_T69 l i).f1 := by
  have key : ∀ (d : Nat) (j : Int), j = p + d → j ≤ i → (rd_T69 l p).f1 ≤ (rd_T69 l j).f1 := by
    intro d
    induction d with
    | zero => intro j e _; rw [show j = p by omega]; exact Int.le_refl _
    | succ d ih =>
      intro j e h
      have h1 := ih (j - 1) (by omega) (by omega)
      have h2 : shLess (rd_T69 l (j - 1)) (rd_T69 l j) := by
        by_cases e2 : j = i
        · rw [e2]; exact hi (by omega)
        · exact (hp j (by omega) (by omega)).2.1 (by omega)
      unfold shLess at h2
      omega
  exact key (i - p).toNat i (by omega) (Int.le_refl _)

def shGood (l : List S69) : Prop := (∀ j : Int, 0 ≤ j → j < (l.length : Int) → shC l j) ∧ (l.length : Int) ≤ 60
theorem shBefore_eq (a b c d e f : Int) : spec_shBefore.f a b c d e f = some (decide (b < e ∨ (b = e ∧ a < d))) := by
  unfold spec_shBefore.f
  by_cases h1 : b < e <;> by_cases h2 : b = e <;> simp [h1, h2]
theorem holeLess_eq (a b c d e f : Int) : impl_holeLess.f a b c d e f = some (decide (b < e ∨ (b = e ∧ a < d))) := by
  unfold impl_holeLess.f
  by_cases h2 : b = e
  · subst h2; simp
  · simp [h2]

theorem sh_spec_shGood_loop (l : List S69) (hl : l.length ≤ 1048576) : Tot (fun k => spec_shGood.l0 k l l (l.length : Int) 0) (fun b => (b = true) ↔ ((∀ j : Int, 0 ≤ j → j < (l.length : Int) → shC l j) ∧ (l.length : Int) ≤ 60)) := by
  refine trec (σ := Int) (fun i k => spec_shGood.l0 k l l (l.length : Int) i) (fun i => ((l.length : Int) - i).toNat) (fun i => 0 ≤ i ∧ i ≤ (l.length : Int) ∧ ∀ j : Int, 0 ≤ j → j < i → shC l j)
    (fun i b => (b = true) ↔ ((∀ j : Int, i ≤ j → j < (l.length : Int) → shC l j) ∧ (l.length : Int) ≤ 60)) ?_ 0 ⟨Int.le_refl _, by omega, fun j a b => by omega⟩
  rintro i ⟨h0, h1, hp⟩ ih
  have hno : i < (l.length : Int) → ¬ shC l i → Tot (fun _ => some false) (fun b => (b = true) ↔ ((∀ j : Int, i ≤ j → j < (l.length : Int) → shC l j) ∧ (l.length : Int) ≤ 60)) := fun a b => tsome (all_no a b)
  have hjT : i < (l.length : Int) → ¬ shA l i → Tot (fun k => spec_shGood.j1 k l i l (l.length : Int) i true (rd_T69 l i).f0 (rd_T69 l i).f1 (rd_T69 l i).f2) (fun b => (b = true) ↔ ((∀ j : Int, i ≤ j → j < (l.length : Int) → shC l j) ∧ (l.length : Int) ≤ 60)) := by
    intro a b
    refine tstep ?_
    simp only [spec_shGood.j1, if_true]
    exact hno a (fun h => b ⟨h.1, h.2.1⟩)
  have hjF : i < (l.length : Int) → shA l i → Tot (fun k => spec_shGood.j1 k l i l (l.length : Int) i false (rd_T69 l i).f0 (rd_T69 l i).f1 (rd_T69 l i).f2) (fun b => (b = true) ↔ ((∀ j : Int, i ≤ j → j < (l.length : Int) → shC l j) ∧ (l.length : Int) ≤ 60)) := by
    intro a hA
    refine tstep ?_
    simp only [spec_shGood.j1, Option.bind_some]
    refine tneg (by simp) (tpos h0 (tpos h1 ?_))
    have hlen : ((l.take i.toNat).length : Int) = i := by simp; omega
    rw [hlen]
    refine trec (σ := Int) (fun p k => spec_shGood.l1 k l l (l.length : Int) i (l.take i.toNat) i p (rd_T69 l i).f0 (rd_T69 l i).f1 (rd_T69 l i).f2) (fun p => (i - p).toNat) (fun p => 0 ≤ p ∧ p ≤ i ∧ ∀ q : Int, 0 ≤ q → q < p → ¬ shMeet (rd_T69 l q) (rd_T69 l i))
      (fun _ => (fun b => (b = true) ↔ ((∀ j : Int, i ≤ j → j < (l.length : Int) → shC l j) ∧ (l.length : Int) ≤ 60))) ?_ 0 ⟨Int.le_refl _, h0, fun q a b => by omega⟩
    rintro p ⟨p0, p1, pq⟩ ihp
    simp only [spec_shGood.l1, hlen, wrap64_id (show -9223372036854775808 ≤ i + 1 by omega) (by omega), wrap64_id (show -9223372036854775808 ≤ p + 1 by omega) (by omega)]
    refine tite (fun c => ?_) (fun c => ?_)
    · refine tpos p0 (tpos c ?_)
      simp only [sh_take l i p p0 c]
      have hs := sh_start l i hp hA.2 p p0 c
      have o1 := (hp p p0 c).1
      have o2 := hA.1
      skip
      have go : ¬ shMeet (rd_T69 l p) (rd_T69 l i) → Tot (fun k => spec_shGood.l1 k l l (l.length : Int) i (l.take i.toNat) i (p + 1) (rd_T69 l i).f0 (rd_T69 l i).f1 (rd_T69 l i).f2) (fun b => (b = true) ↔ ((∀ j : Int, i ≤ j → j < (l.length : Int) → shC l j) ∧ (l.length : Int) ≤ 60)) := fun hm =>
        ihp (p + 1) ⟨by omega, by omega, fun q q0 q1 => by
          by_cases e : q = p
          · rw [e]; exact hm
          · exact pq q q0 (by omega)⟩ (by (try dsimp only); omega)
      repeat' (refine tite (fun _ => ?_) (fun _ => ?_))
      all_goals first
        | exact go (by unfold shMeet; omega)
        | exact hno a (fun h => h.2.2 p p0 c (by unfold shMeet; omega))
    · have Ci : shC l i := ⟨hA.1, hA.2, fun q q0 q1 => pq q q0 (by omega)⟩
      exact tmono (ih (i + 1) ⟨by omega, by omega, fun j j0 j1 => by
        by_cases e : j = i
        · rw [e]; exact Ci
        · exact hp j j0 (by omega)⟩ (by (try dsimp only); omega)) (fun b hb => all_go a Ci hb)
  simp only [spec_shGood.l0, shHole_eq, shBefore_eq, Option.bind_some, decide_eq_true_eq]
  simp only [show wrap64 (i - 1) = i - 1 from wrap64_id (by omega) (by omega)]
  by_cases hL : shLess (rd_T69 l (i - 1)) (rd_T69 l i)
  all_goals
    have hL2 := hL
    unfold shLess at hL2
    simp only [hL2, decide_true, decide_false, Bool.not_true, Bool.not_false]
    repeat' (refine tite (fun _ => ?_) (fun _ => ?_))
    all_goals first
      | (exfalso; omega)
      | exact hjF (by omega) ⟨by assumption, fun _ => hL⟩
      | exact hjF (by omega) ⟨by assumption, fun h => absurd h (by omega)⟩
      | exact hjT (by omega) (fun h => absurd h.1 (by assumption))
      | exact hjT (by omega) (fun h => absurd (h.2 (by omega)) hL)
      | exact tsome (all_end (by omega) (by simp only [decide_eq_true_eq]))

theorem sh_impl_IsSheet_loop (l : List S69) (hl : l.length ≤ 1048576) : Tot (fun k => impl_IsSheet.l0 k l l (l.length : Int) 0) (fun b => (b = true) ↔ ((∀ j : Int, 0 ≤ j → j < (l.length : Int) → shC l j) ∧ True)) := by
  refine trec (σ := Int) (fun i k => impl_IsSheet.l0 k l l (l.length : Int) i) (fun i => ((l.length : Int) - i).toNat) (fun i => 0 ≤ i ∧ i ≤ (l.length : Int) ∧ ∀ j : Int, 0 ≤ j → j < i → shC l j)
    (fun i b => (b = true) ↔ ((∀ j : Int, i ≤ j → j < (l.length : Int) → shC l j) ∧ True)) ?_ 0 ⟨Int.le_refl _, by omega, fun j a b => by omega⟩
  rintro i ⟨h0, h1, hp⟩ ih
  have hno : i < (l.length : Int) → ¬ shC l i → Tot (fun _ => some false) (fun b => (b = true) ↔ ((∀ j : Int, i ≤ j → j < (l.length : Int) → shC l j) ∧ True)) := fun a b => tsome (all_no a b)
  have hjT : i < (l.length : Int) → ¬ shA l i → Tot (fun k => impl_IsSheet.j1 k l i l (l.length : Int) i true (rd_T69 l i).f0 (rd_T69 l i).f1 (rd_T69 l i).f2) (fun b => (b = true) ↔ ((∀ j : Int, i ≤ j → j < (l.length : Int) → shC l j) ∧ True)) := by
    intro a b
    refine tstep ?_
    simp only [impl_IsSheet.j1, if_true]
    exact hno a (fun h => b ⟨h.1, h.2.1⟩)
  have hjF : i < (l.length : Int) → shA l i → Tot (fun k => impl_IsSheet.j1 k l i l (l.length : Int) i false (rd_T69 l i).f0 (rd_T69 l i).f1 (rd_T69 l i).f2) (fun b => (b = true) ↔ ((∀ j : Int, i ≤ j → j < (l.length : Int) → shC l j) ∧ True)) := by
    intro a hA
    refine tstep ?_
    simp only [impl_IsSheet.j1, Option.bind_some]
    refine tneg (by simp) (tpos h0 (tpos h1 ?_))
    have hlen : ((l.take i.toNat).length : Int) = i := by simp; omega
    rw [hlen]
    refine trec (σ := Int) (fun p k => impl_IsSheet.l1 k l l (l.length : Int) i (l.take i.toNat) i p (rd_T69 l i).f0 (rd_T69 l i).f1 (rd_T69 l i).f2) (fun p => (i - p).toNat) (fun p => 0 ≤ p ∧ p ≤ i ∧ ∀ q : Int, 0 ≤ q → q < p → ¬ shMeet (rd_T69 l q) (rd_T69 l i))
      (fun _ => (fun b => (b = true) ↔ ((∀ j : Int, i ≤ j → j < (l.length : Int) → shC l j) ∧ True))) ?_ 0 ⟨Int.le_refl _, h0, fun q a b => by omega⟩
    rintro p ⟨p0, p1, pq⟩ ihp
    simp only [impl_IsSheet.l1, hlen, wrap64_id (show -9223372036854775808 ≤ i + 1 by omega) (by omega), wrap64_id (show -9223372036854775808 ≤ p + 1 by omega) (by omega)]
    refine tite (fun c => ?_) (fun c => ?_)
    · refine tpos p0 (tpos c ?_)
      simp only [sh_take l i p p0 c]
      have hs := sh_start l i hp hA.2 p p0 c
      have o1 := (hp p p0 c).1
      have o2 := hA.1
      skip
      have go : ¬ shMeet (rd_T69 l p) (rd_T69 l i) → Tot (fun k => impl_IsSheet.l1 k l l (l.length : Int) i (l.take i.toNat) i (p + 1) (rd_T69 l i).f0 (rd_T69 l i).f1 (rd_T69 l i).f2) (fun b => (b = true) ↔ ((∀ j : Int, i ≤ j → j < (l.length : Int) → shC l j) ∧ True)) := fun hm =>
        ihp (p + 1) ⟨by omega, by omega, fun q q0 q1 => by
          by_cases e : q = p
          · rw [e]; exact hm
          · exact pq q q0 (by omega)⟩ (by (try dsimp only); omega)
      repeat' (refine tite (fun _ => ?_) (fun _ => ?_))
      all_goals first
        | exact go (by unfold shMeet; omega)
        | exact hno a (fun h => h.2.2 p p0 c (by unfold shMeet; omega))
    · have Ci : shC l i := ⟨hA.1, hA.2, fun q q0 q1 => pq q q0 (by omega)⟩
      exact tmono (ih (i + 1) ⟨by omega, by omega, fun j j0 j1 => by
        by_cases e : j = i
        · rw [e]; exact Ci
        · exact hp j j0 (by omega)⟩ (by (try dsimp only); omega)) (fun b hb => all_go a Ci hb)
  simp only [impl_IsSheet.l0, implIsHole_eq, holeLess_eq, Option.bind_some, decide_eq_true_eq]
  simp only [show wrap64 (i - 1) = i - 1 from wrap64_id (by omega) (by omega)]
  by_cases hL : shLess (rd_T69 l (i - 1)) (rd_T69 l i)
  all_goals
    have hL2 := hL
    unfold shLess at hL2
    simp only [hL2, decide_true, decide_false, Bool.not_true, Bool.not_false]
    repeat' (refine tite (fun _ => ?_) (fun _ => ?_))
    all_goals first
      | (exfalso; omega)
      | exact hjF (by omega) ⟨by assumption, fun _ => hL⟩
      | exact hjF (by omega) ⟨by assumption, fun h => absurd h (by omega)⟩
      | exact hjT (by omega) (fun h => absurd h.1 (by assumption))
      | exact hjT (by omega) (fun h => absurd (h.2 (by omega)) hL)
      | exact tsome (all_end (by omega) (by simp))

theorem shGood_tot (l : List S69) (hl : l.length ≤ 1048576) : Tot (fun k => spec_shGood.f k l) (fun b => (b = true) ↔ shGood l) := by
  unfold spec_shGood.f
  exact sh_spec_shGood_loop l hl
theorem isSheet_tot (l : List S69) (hl : l.length ≤ 1048576) : Tot (fun k => impl_IsSheet.f k l) (fun b => (b = true) ↔ shGood l) := by
  unfold impl_IsSheet.f shGood
  refine tite (fun c => tsome ⟨(fun h => by simp at h), (fun h => by have := h.2; omega)⟩) (fun c => ?_)
  refine tmono (sh_impl_IsSheet_loop l hl) (fun b hb => ?_)
  rw [hb]
  exact ⟨fun h => ⟨h.1, by omega⟩, fun h => ⟨h.1, trivial⟩⟩

def WebP (l : List S69) (i p q j : Int) : Prop := 0 ≤ q ∧ q < j ∧ (j < i ∨ (j = i ∧ q < p)) ∧ (rd_T69 l q).f0 = (rd_T69 l j).f0
def gap (l : List S69) (q j : Int) : Int := (rd_T69 l j).f1 - (rd_T69 l q).f2
def Web (l : List S69) (i p m : Int) : Prop := (m = -1 ∧ ∀ q j, ¬ WebP l i p q j) ∨ (1 ≤ m ∧ (∃ q j, WebP l i p q j ∧ m = gap l q j) ∧ ∀ q j, WebP l i p q j → m ≤ gap l q j)
theorem Web.det {l : List S69} {i p m m' : Int} (h : Web l i p m) (h' : Web l i p m') : m = m' := by
  rcases h with ⟨e, h⟩ | ⟨a, ⟨q, j, hq, e⟩, h⟩ <;> rcases h' with ⟨e', h'⟩ | ⟨a', ⟨q', j', hq', e'⟩, h'⟩
  · omega
  · exact absurd hq' (h q' j')
  · exact absurd hq (h' q j)
  · have := h q' j' hq'
    have := h' q j hq
    omega
theorem WebP.up {l : List S69} {i p q j : Int} (h : WebP l i p q j) : WebP l i (p + 1) q j := ⟨h.1, h.2.1, by have := h.2.2.1; omega, h.2.2.2⟩
theorem WebP.down {l : List S69} {i p q j : Int} (h : WebP l i (p + 1) q j) : WebP l i p q j ∨ (q = p ∧ j = i) := by
  obtain ⟨a, b, c, d⟩ := h
  by_cases e : q = p ∧ j = i
  · exact .inr e
  · exact .inl ⟨a, b, by omega, d⟩
theorem Web.skip {l : List S69} {i p m : Int} (h : Web l i p m) (hne : (rd_T69 l p).f0 ≠ (rd_T69 l i).f0) : Web l i (p + 1) m := by
  have hd : ∀ q j, WebP l i (p + 1) q j → WebP l i p q j := fun q j hq => hq.down.elim id (fun e => by
    obtain ⟨rfl, rfl⟩ := e
    exact absurd hq.2.2.2 hne)
  rcases h with ⟨e, h⟩ | ⟨a, ⟨q, j, hq, e⟩, h⟩
  · exact .inl ⟨e, fun q j hq => h q j (hd q j hq)⟩
  · exact .inr ⟨a, ⟨q, j, hq.up, e⟩, fun q j hq => h q j (hd q j hq)⟩
theorem Web.take {l : List S69} {i p m : Int} (h : Web l i p m) (h0 : 0 ≤ p) (hi : p < i) (he : (rd_T69 l p).f0 = (rd_T69 l i).f0) (hg : 1 ≤ gap l p i) (hm : m < 0 ∨ gap l p i < m) : Web l i (p + 1) (gap l p i) := by
  refine .inr ⟨hg, ⟨p, i, ⟨h0, hi, .inr ⟨rfl, by omega⟩, he⟩, rfl⟩, fun q j hq => ?_⟩
  rcases hq.down with hq | ⟨rfl, rfl⟩
  · rcases h with ⟨e, h⟩ | ⟨a, _, h⟩
    · exact absurd hq (h q j)
    · have := h q j hq
      omega
  · exact Int.le_refl _
theorem Web.leave {l : List S69} {i p m : Int} (h : Web l i p m) (hm : 0 ≤ m) (hle : m ≤ gap l p i) : Web l i (p + 1) m := by
  rcases h with ⟨e, h⟩ | ⟨a, ⟨q, j, hq, e⟩, h⟩
  · omega
  · refine .inr ⟨a, ⟨q, j, hq.up, e⟩, fun q j hq => ?_⟩
    rcases hq.down with hq | ⟨rfl, rfl⟩
    · exact h q j hq
    · exact hle
theorem Web.row {l : List S69} {i m : Int} (h : Web l i i m) : Web l (i + 1) 0 m := by
  have h1 : ∀ q j, WebP l (i + 1) 0 q j → WebP l i i q j := fun q j hq => ⟨hq.1, hq.2.1, by have := hq.1; have := hq.2.1; have := hq.2.2.1; omega, hq.2.2.2⟩
  have h2 : ∀ q j, WebP l i i q j → WebP l (i + 1) 0 q j := fun q j hq => ⟨hq.1, hq.2.1, by have := hq.2.2.1; omega, hq.2.2.2⟩
  rcases h with ⟨e, h⟩ | ⟨a, ⟨q, j, hq, e⟩, h⟩
  · exact .inl ⟨e, fun q j hq => h q j (h1 q j hq)⟩
  · exact .inr ⟨a, ⟨q, j, h2 q j hq, e⟩, fun q j hq => h q j (h1 q j hq)⟩
theorem gap_pos {l : List S69} (hg : shGood l) {q j : Int} (h0 : 0 ≤ q) (h : q < j) (hj : j < (l.length : Int)) (he : (rd_T69 l q).f0 = (rd_T69 l j).f0) : 1 ≤ gap l q j := by
  have := (hg.1 j (by omega) hj).2.2 q h0 h
  unfold shMeet at this
  unfold gap
  omega
theorem shWeb_tot (l : List S69) (hg : shGood l) : Tot (fun k => spec_shWeb.f k l) (fun r => Web l (l.length : Int) 0 r) := by
  have hn := hg.2
  unfold spec_shWeb.f
  refine trec (σ := Int × Int) (fun s k => spec_shWeb.l0 k l s.1 l (l.length : Int) s.2) (fun s => ((l.length : Int) - s.2).toNat) (fun s => 0 ≤ s.2 ∧ s.2 ≤ (l.length : Int) ∧ Web l s.2 0 s.1) (fun _ r => Web l (l.length : Int) 0 r) ?_ (-1, 0) ⟨Int.le_refl _, by dsimp only; omega, .inl ⟨rfl, fun q j hq => by have := hq.1; have := hq.2.1; have := hq.2.2.1; dsimp only at this; omega⟩⟩
  rintro ⟨m, i⟩ ⟨h0, h1, h2⟩ ih
  dsimp only at h0 h1 h2
  simp only [spec_shWeb.l0, Option.bind_some]
  refine tite (fun c => ?_) (fun c => tsome (by rw [show (l.length : Int) = i by omega]; exact h2))
  refine tpos h0 (tpos c (tpos h1 ?_))
  have hlen : ((l.take i.toNat).length : Int) = i := by simp; omega
  rw [hlen]
  refine trec (σ := Int × Int) (fun s k => spec_shWeb.l1 k l s.1 l (l.length : Int) i (l.take i.toNat) i s.2 (rd_T69 l i).f0 (rd_T69 l i).f1 (rd_T69 l i).f2) (fun s => (i - s.2).toNat) (fun s => 0 ≤ s.2 ∧ s.2 ≤ i ∧ Web l i s.2 s.1) (fun _ r => Web l (l.length : Int) 0 r) ?_ (m, 0) ⟨Int.le_refl _, by dsimp only; omega, h2⟩
  rintro ⟨m, p⟩ ⟨p0, p1, p2⟩ ihp
  dsimp only at p0 p1 p2
  simp only [spec_shWeb.l1, hlen, wrap64_id (x := p + 1) (by omega) (by omega), wrap64_id (x := i + 1) (by omega) (by omega)]
  refine tite (fun c2 => ?_) (fun c2 => ?_)
  · refine tpos p0 (tpos c2 ?_)
    simp only [sh_take l i p p0 c2]
    have o1 := (hg.1 p p0 (by omega)).1
    have o2 := (hg.1 i h0 c).1
    unfold OkHole at o1 o2
    have eg : (rd_T69 l i).f1 - (rd_T69 l p).f2 = gap l p i := rfl
    rw [wrap64_id (x := (rd_T69 l i).f1 - (rd_T69 l p).f2) (by omega) (by omega), eg]
    have go : ∀ m', Web l i (p + 1) m' → Tot (fun k => spec_shWeb.l1 k l m' l (l.length : Int) i (l.take i.toNat) i (p + 1) (rd_T69 l i).f0 (rd_T69 l i).f1 (rd_T69 l i).f2) (fun r => Web l (l.length : Int) 0 r) :=
      fun m' hm' => ihp (m', p + 1) ⟨by dsimp only; omega, by dsimp only; omega, hm'⟩ (by dsimp only; omega)
    refine tite (fun c3 => ?_) (fun c3 => go _ (p2.skip (fun e => c3 e.symm)))
    have gp := gap_pos hg p0 c2 c c3.symm
    refine tite (fun c4 => go _ (p2.take p0 c2 c3.symm gp (.inl c4))) (fun c4 => ?_)
    exact tite (fun c5 => go _ (p2.take p0 c2 c3.symm gp (.inr c5))) (fun c5 => go _ (p2.leave (by omega) (by omega)))
  · obtain rfl : p = i := by omega
    exact ih (m, p + 1) ⟨by dsimp only; omega, by dsimp only; omega, p2.row⟩ (by dsimp only; omega)
def webOf (a : Int) : Int := if a = 0 then -1 else a
theorem Web.none_new {l : List S69} {i m : Int} (h : Web l i 0 m) (hno : ∀ q : Int, 0 ≤ q → q < i → (rd_T69 l q).f0 ≠ (rd_T69 l i).f0) : Web l (i + 1) 0 m := by
  have h1 : ∀ q j, WebP l (i + 1) 0 q j → WebP l i 0 q j := fun q j hq => by
    obtain ⟨a, b, c, d⟩ := hq
    by_cases e : j = i
    · subst e; exact absurd d (hno q a b)
    · exact ⟨a, b, by omega, d⟩
  have h2 : ∀ q j, WebP l i 0 q j → WebP l (i + 1) 0 q j := fun q j hq => ⟨hq.1, hq.2.1, by have := hq.1; have := hq.2.2.1; omega, hq.2.2.2⟩
  rcases h with ⟨e, h⟩ | ⟨a, ⟨q, j, hq, e⟩, h⟩
  · exact .inl ⟨e, fun q j hq => h q j (h1 q j hq)⟩
  · exact .inr ⟨a, ⟨q, j, h2 q j hq, e⟩, fun q j hq => h q j (h1 q j hq)⟩
theorem Web.near {l : List S69} (hg : shGood l) {i p m : Int} (h : Web l i 0 m) (h0 : 0 ≤ p) (hi : p < i) (hl : i < (l.length : Int)) (he : (rd_T69 l p).f0 = (rd_T69 l i).f0) (hno : ∀ q : Int, p < q → q < i → (rd_T69 l q).f0 ≠ (rd_T69 l i).f0) :
    (m < 0 ∨ gap l p i < m → Web l (i + 1) 0 (gap l p i)) ∧ (0 ≤ m → m ≤ gap l p i → Web l (i + 1) 0 m) := by
  have gp := gap_pos hg h0 hi hl he
  have near : ∀ q j, WebP l (i + 1) 0 q j → WebP l i 0 q j ∨ (j = i ∧ gap l p i ≤ gap l q i) := fun q j hq => by
    obtain ⟨a, b, c, d⟩ := hq
    by_cases e : j = i
    · subst e
      refine .inr ⟨rfl, ?_⟩
      by_cases e2 : q = p
      · rw [e2]; exact Int.le_refl _
      · have hqp : q < p := by
          by_cases h3 : p < q
          · exact absurd d (hno q h3 b)
          · omega
        have h4 := gap_pos hg a hqp (by omega) (d.trans he.symm)
        have o1 := (hg.1 p h0 (by omega)).1
        unfold OkHole at o1
        unfold gap at h4 ⊢
        omega
    · exact .inl ⟨a, b, by omega, d⟩
  have up : ∀ q j, WebP l i 0 q j → WebP l (i + 1) 0 q j := fun q j hq => ⟨hq.1, hq.2.1, by have := hq.1; have := hq.2.2.1; omega, hq.2.2.2⟩
  have new : WebP l (i + 1) 0 p i := ⟨h0, hi, .inl (by omega), he⟩
  constructor
  · intro hm
    refine .inr ⟨gp, ⟨p, i, new, rfl⟩, fun q j hq => ?_⟩
    rcases near q j hq with hq | ⟨rfl, hq⟩
    · rcases h with ⟨e, h⟩ | ⟨a, _, h⟩
      · exact absurd hq (h q j)
      · have := h q j hq
        omega
    · exact hq
  · intro hm hle
    rcases h with ⟨e, h⟩ | ⟨a, ⟨q, j, hq, e⟩, h⟩
    · omega
    · refine .inr ⟨a, ⟨q, j, up q j hq, e⟩, fun q j hq => ?_⟩
      rcases near q j hq with hq | ⟨rfl, hq⟩
      · exact h q j hq
      · omega
theorem implWeb_tot (l : List S69) (hg : shGood l) : Tot (fun k => impl_LeastWeb.l0 k l 0 l (l.length : Int) 0) (fun r => ∃ a, r = (a, decide (a > 0)) ∧ 0 ≤ a ∧ Web l (l.length : Int) 0 (webOf a)) := by
  have hn := hg.2
  refine trec (σ := Int × Int) (fun s k => impl_LeastWeb.l0 k l s.1 l (l.length : Int) s.2) (fun s => ((l.length : Int) - s.2).toNat) (fun s => 0 ≤ s.2 ∧ s.2 ≤ (l.length : Int) ∧ 0 ≤ s.1 ∧ Web l s.2 0 (webOf s.1)) (fun _ r => ∃ a, r = (a, decide (a > 0)) ∧ 0 ≤ a ∧ Web l (l.length : Int) 0 (webOf a)) ?_ (0, 0) ⟨Int.le_refl _, by dsimp only; omega, Int.le_refl _, .inl ⟨rfl, fun q j hq => by have := hq.1; have := hq.2.1; have := hq.2.2.1; dsimp only at this; omega⟩⟩
  rintro ⟨a, i⟩ ⟨h0, h1, ha, h2⟩ ih
  dsimp only at h0 h1 h2 ha
  simp only [impl_LeastWeb.l0]
  refine tite (fun c => ?_) (fun c => tsome ⟨a, rfl, ha, by rw [show (l.length : Int) = i by omega]; exact h2⟩)
  refine tpos h0 (tpos c ?_)
  rw [wrap64_id (x := i - 1) (by omega) (by omega)]
  refine trec (σ := Int) (fun p k => impl_LeastWeb.l1 k l a p l (l.length : Int) i (rd_T69 l i).f0 (rd_T69 l i).f1 (rd_T69 l i).f2) (fun p => (p + 1).toNat) (fun p => -1 ≤ p ∧ p < i ∧ ∀ q : Int, p < q → q < i → (rd_T69 l q).f0 ≠ (rd_T69 l i).f0) (fun _ r => ∃ a, r = (a, decide (a > 0)) ∧ 0 ≤ a ∧ Web l (l.length : Int) 0 (webOf a)) ?_ (i - 1) ⟨by omega, by omega, fun q q0 q1 => by omega⟩
  rintro p ⟨p0, p1, pq⟩ ihp
  simp only [impl_LeastWeb.l1, wrap64_id (x := p - 1) (by omega) (by omega), wrap64_id (x := i + 1) (by omega) (by omega)]
  have go : ∀ a', 0 ≤ a' → Web l (i + 1) 0 (webOf a') → Tot (fun k => impl_LeastWeb.l0 k l a' l (l.length : Int) (i + 1)) (fun r => ∃ a, r = (a, decide (a > 0)) ∧ 0 ≤ a ∧ Web l (l.length : Int) 0 (webOf a)) :=
    fun a' h3 h4 => ih (a', i + 1) ⟨by dsimp only; omega, by dsimp only; omega, h3, h4⟩ (by dsimp only; omega)
  refine tite (fun c2 => ?_) (fun c2 => go a ha (h2.none_new (fun q q0 q1 => pq q (by omega) q1)))
  refine tpos c2 (tpos (by omega) ?_)
  refine tite (fun c3 => ?_) (fun c3 => ihp (p - 1) ⟨by omega, by omega, fun q q0 q1 => by
    by_cases e : q = p
    · rw [e]; exact c3
    · exact pq q (by omega) q1⟩ (by (try dsimp only); omega))
  have o1 := (hg.1 p (by omega) (by omega)).1
  have o2 := (hg.1 i h0 c).1
  unfold OkHole at o1 o2
  have eg : (rd_T69 l i).f1 - (rd_T69 l p).f2 = gap l p i := rfl
  rw [wrap64_id (x := (rd_T69 l i).f1 - (rd_T69 l p).f2) (by omega) (by omega), eg]
  have gp := gap_pos hg (by omega) p1 c c3
  obtain ⟨n1, n2⟩ := h2.near hg (by omega) p1 c c3 pq
  have ew : webOf (gap l p i) = gap l p i := by unfold webOf; rw [if_neg (by omega)]
  refine tite (fun c4 => go _ (by omega) (by rw [ew]; exact n1 (.inl (by unfold webOf; rw [if_pos c4]; omega)))) (fun c4 => ?_)
  have ea : webOf a = a := by unfold webOf; rw [if_neg c4]
  rw [ea] at n1 n2
  exact tite (fun c5 => go _ (by omega) (by rw [ew]; exact n1 (.inr c5))) (fun c5 => go _ ha (by rw [ea]; exact n2 ha (by omega)))
theorem leastWeb_agree (l : List S69) (hl : l.length ≤ 1048576) : ∃ r, Tot (fun k => spec_LeastWeb.f k l) (fun y => y = r) ∧ Tot (fun k => impl_LeastWeb.f k l) (fun y => y = r) := by
  by_cases hg : shGood l
  · obtain ⟨m, hm, hw⟩ := shWeb_tot l hg
    have h1 : Tot (fun k => spec_shWeb.f k l) (fun y => y = m) := ⟨m, hm, rfl⟩
    refine ⟨if m < 0 then (0, false) else (m, true), ?_, ?_⟩
    · unfold spec_LeastWeb.f
      refine tbind (shGood_tot l hl) (fun b hb => tpos (hb.2 hg) ?_)
      refine tbind h1 (fun _ e => ?_); subst e
      refine tite (fun c => tsome (by rw [if_pos c])) (fun c => ?_)
      refine tbind h1 (fun _ e => ?_); subst e
      exact tsome (by rw [if_neg c])
    · unfold impl_LeastWeb.f
      refine tbind (isSheet_tot l hl) (fun b hb => tpos (hb.2 hg) ?_)
      refine tmono (implWeb_tot l hg) (fun y hy => ?_)
      obtain ⟨a, rfl, ha, ha2⟩ := hy
      have e := ha2.det hw
      unfold webOf at e
      by_cases c : a = 0
      · rw [if_pos c] at e
        rw [if_pos (by omega), c]; rfl
      · rw [if_neg c] at e
        rw [if_neg (by omega), e, decide_eq_true (by omega)]
  · refine ⟨(0, false), ?_, ?_⟩
    · unfold spec_LeastWeb.f
      exact tbind (shGood_tot l hl) (fun b hb => tneg (fun h => hg (hb.1 h)) (tsome rfl))
    · unfold impl_LeastWeb.f
      exact tbind (isSheet_tot l hl) (fun b hb => tneg (fun h => hg (hb.1 h)) (tsome rfl))


theorem FnExactLeastWeb (l0 : List (S71)) (hm0 : l0.length ≤ 9223372036854775807) (hw0 : ∀ y ∈ l0, Glue.wf64 y.f0 ∧ Glue.wf64 y.f1 ∧ Glue.wf64 y.f2) : ∃ k, laws_FnExactLeastWeb.f k l0 = some true := by
  refine rounds ?_
  unfold laws_FnExactLeastWeb.f
  rw [szHoleS l0 (1048576 : Int) (by omega) (by omega) hm0]
  simp only [Option.bind_some]
  by_cases hl0 : (1048576 : Int) < (l0.length : Int)
  · simp only [if_pos hl0]; exact tpos (by omega) (tsome rfl)
  simp only [if_neg hl0]
  refine tneg (by omega) ?_
  obtain ⟨r, hS, hI⟩ := leastWeb_agree (l0.map cvHole) (by simp; omega)
  repeat first
    | exact tsome rfl
    | (refine tbind hS (fun _ e => ?_); subst e)
    | (refine tbind hI (fun _ e => ?_); subst e)
    | (refine tbind (toHoleS l0 (by omega)) (fun _ e => ?_); subst e)
    | (refine tbind (eqHoleS _ (by first | omega | (dsimp only; omega) | (simp; omega) | assumption)) (fun _ e => ?_); subst e)
    | refine tpos rfl ?_
    | refine tneg (by simp) ?_
    | refine tneg (by dsimp only; omega) ?_
    | refine tpos (by dsimp only) ?_
    | (refine tstep ?_; simp only [laws_FnExactLeastWeb.j0])
end Go.Proofs.Ytfpfjnmjekjnhaa.Pure
