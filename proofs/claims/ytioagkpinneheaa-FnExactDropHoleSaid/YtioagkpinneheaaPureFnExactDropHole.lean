/- The plain side of the law FnExactDropHole: lists and numbers alone. -/
import Derived.Test.YtioagkpinneheaaPFnExactDropHolex6
import Derived.Test.YtioagkpinneheaaGlue
import Derived.Test.YtioagkpinneheaaTot
set_option linter.unusedVariables false
set_option linter.unusedSimpArgs false
namespace Go.Proofs.Ytioagkpinneheaa.Pure
open Go.RowKit Go.Proofs.Ytioagkpinneheaa.PFnExactDropHole Go.Proofs.YtioagkpinneheaaW.PrintWords Go.Proofs.YtioagkpinneheaaW.PrintMore Go.Proofs.Ytioagkpinneheaa.Tot

theorem l1In_eq (a b c : Int) : spec_l1In.f a b c = some (decide (b ≤ a ∧ a ≤ c)) := by
  unfold spec_l1In.f
  by_cases h : b ≤ a <;> simp [h]

def cvHole (x : S121) : S119 := ⟨x.f0, x.f1, x.f2⟩
theorem toHoleS (l : List S121) (hl : l.length ≤ 1048576) : Tot (fun k => laws_toHoleS.f k l) (fun r => r = l.map cvHole) := by
  unfold laws_toHoleS.f
  refine tpos (by omega) (tpos (by omega) ?_)
  have key := trec (σ := List S119 × Int) (fun s k => laws_toHoleS.l0 k l s.1 s.2) (fun s => ((l.length : Int) - s.2).toNat)
    (fun s => 0 ≤ s.2 ∧ s.2 ≤ (l.length : Int) ∧ s.1.length = l.length ∧ ∀ j : Int, 0 ≤ j → j < s.2 → s.1.getD j.toNat z119 = cvHole (l.getD j.toNat z121)) (fun _ r => r = l.map cvHole) ?_
  · exact key (List.replicate (l.length : Int).toNat z119, 0) ⟨Int.le_refl _, by dsimp only; omega, by simp, fun j h0 h1 => by dsimp only at h1; omega⟩
  · rintro ⟨ys, i⟩ ⟨h0, h1, h2, h3⟩ ih
    dsimp only at h0 h1 h2 h3
    simp only [laws_toHoleS.l0, laws_toHole.f, Option.bind_some]
    refine tite (fun c => ?_) (fun c => ?_)
    · refine tpos h0 (tpos (by omega) ?_)
      rw [wrap64_id (by omega) (by omega)]
      refine ih (_, i + 1) ⟨by dsimp only; omega, by dsimp only; omega, by simp [h2], ?_⟩ (by dsimp only; omega)
      intro j hj0 hj1
      dsimp only at hj1 ⊢
      by_cases e : j = i
      · subst e; rw [ld_set_self _ _ (by omega) hj0]; rfl
      · rw [ld_set_ne _ _ _ h0 hj0 (by omega)]; exact h3 j hj0 (by omega)
    · exact tsome (write_end h2 (fun j a b => h3 j a (by omega)))

theorem eqHoleS (l : List S119) (hl : l.length ≤ 1048576) : Tot (fun k => laws_eqHoleS.f k l l) (fun r => r = true) := by
  unfold laws_eqHoleS.f
  refine tpos rfl ?_
  refine trec (σ := Int) (fun i k => laws_eqHoleS.l0 k l l i) (fun i => ((l.length : Int) - i).toNat) (fun i => 0 ≤ i ∧ i ≤ (l.length : Int)) (fun _ r => r = true) ?_ 0 ⟨Int.le_refl _, by omega⟩
  rintro i ⟨h0, h1⟩ ih
  simp only [laws_eqHoleS.l0, laws_eqHole.f, if_true, Option.bind_some]
  refine tite (fun c => ?_) (fun c => tsome rfl)
  refine tpos h0 (tpos (by omega) ?_)
  rw [wrap64_id (by omega) (by omega)]
  exact ih (i + 1) ⟨by omega, by omega⟩ (by (try dsimp only); omega)

theorem szHoleS (l : List S121) (n : Int) (hn : 0 ≤ n) (hn2 : n ≤ 1048576) (hl : l.length ≤ 9223372036854775807) : laws_szHoleS.f l n = some (if n < l.length then -1 else n - l.length) := by
  unfold laws_szHoleS.f
  simp (disch := omega) only [wrap64_id]
  by_cases h : n < l.length
  · rw [if_pos (by omega), if_pos h]
  · rw [if_neg (by omega), if_neg h]

abbrev OkHole (a b c : Int) : Prop := 0 ≤ a ∧ a ≤ 19 ∧ 0 ≤ b ∧ b < c ∧ c ≤ 2000
theorem shHole_eq (a b c : Int) : spec_shHole.f a b c = some (decide (OkHole a b c)) := by
  unfold spec_shHole.f OkHole
  simp only [l1In_eq, Option.bind_some, decide_eq_true_eq]
  split
  · split
    · rw [wrap64_id (by omega) (by omega)]
      congr 1; rw [Bool.eq_iff_iff]; simp only [decide_eq_true_eq]; omega
    · congr 1; rw [Bool.eq_iff_iff]; simp only [decide_eq_true_eq]; simp; omega
  · congr 1; rw [Bool.eq_iff_iff]; simp only [decide_eq_true_eq]; simp; omega
theorem implIsHole_eq (a b c : Int) : impl_IsHole.f a b c = some (decide (OkHole a b c)) := by
  unfold impl_IsHole.f impl_isTrack.f OkHole
  by_cases h1 : 0 ≤ a <;> by_cases h2 : a < 20 <;> by_cases h3 : 0 ≤ b <;> by_cases h4 : b < c <;> simp [h1, h2, h3, h4] <;> omega

def shLess (x y : S119) : Prop := x.f1 < y.f1 ∨ (x.f1 = y.f1 ∧ x.f0 < y.f0)
def shMeet (x y : S119) : Prop := x.f0 = y.f0 ∧ y.f1 ≤ x.f2
def shA (l : List S119) (j : Int) : Prop := OkHole (rd_T119 l j).f0 (rd_T119 l j).f1 (rd_T119 l j).f2 ∧ (0 < j → shLess (rd_T119 l (j - 1)) (rd_T119 l j))
def shC (l : List S119) (j : Int) : Prop := OkHole (rd_T119 l j).f0 (rd_T119 l j).f1 (rd_T119 l j).f2 ∧ (0 < j → shLess (rd_T119 l (j - 1)) (rd_T119 l j)) ∧ (∀ p : Int, 0 ≤ p → p < j → ¬ shMeet (rd_T119 l p) (rd_T119 l j))
theorem sh_take (l : List S119) (i p : Int) (h0 : 0 ≤ p) (h : p < i) : rd_T119 (l.take i.toNat) p = rd_T119 l p := by
  unfold rd_T119
  exact ld_take i.toNat p h0 (by omega)
theorem sh_start (l : List S119) (i : Int) (hp : ∀ j : Int, 0 ≤ j → j < i → shC l j) (hi : 0 < i → shLess (rd_T119 l (i - 1)) (rd_T119 l i)) (p : Int) (p0 : 0 ≤ p) (p1 : p < i) : (rd_T119 l p).f1 ≤ (rd_T119 l i).f1 := by
  have key : ∀ (d : Nat) (j : Int), j = p + d → j ≤ i → (rd_T119 l p).f1 ≤ (rd_T119 l j).f1 := by
    intro d
    induction d with
    | zero => intro j e _; rw [show j = p by omega]; exact Int.le_refl _
    | succ d ih =>
      intro j e h
      have h1 := ih (j - 1) (by omega) (by omega)
      have h2 : shLess (rd_T119 l (j - 1)) (rd_T119 l j) := by
        by_cases e2 : j = i
        · rw [e2]; exact hi (by omega)
        · exact (hp j (by omega) (by omega)).2.1 (by omega)
      unfold shLess at h2
      omega
  exact key (i - p).toNat i (by omega) (Int.le_refl _)

def shGood (l : List S119) : Prop := (∀ j : Int, 0 ≤ j → j < (l.length : Int) → shC l j) ∧ (l.length : Int) ≤ 60
theorem shBefore_eq (a b c d e f : Int) : spec_shBefore.f a b c d e f = some (decide (b < e ∨ (b = e ∧ a < d))) := by
  unfold spec_shBefore.f
  by_cases h1 : b < e <;> by_cases h2 : b = e <;> simp [h1, h2]
theorem holeLess_eq (a b c d e f : Int) : impl_holeLess.f a b c d e f = some (decide (b < e ∨ (b = e ∧ a < d))) := by
  unfold impl_holeLess.f
  by_cases h2 : b = e
  · subst h2; simp
  · simp [h2]

theorem sh_spec_shGood_loop (l : List S119) (hl : l.length ≤ 1048576) : Tot (fun k => spec_shGood.l0 k l l (l.length : Int) 0) (fun b => (b = true) ↔ ((∀ j : Int, 0 ≤ j → j < (l.length : Int) → shC l j) ∧ (l.length : Int) ≤ 60)) := by
  refine trec (σ := Int) (fun i k => spec_shGood.l0 k l l (l.length : Int) i) (fun i => ((l.length : Int) - i).toNat) (fun i => 0 ≤ i ∧ i ≤ (l.length : Int) ∧ ∀ j : Int, 0 ≤ j → j < i → shC l j)
    (fun i b => (b = true) ↔ ((∀ j : Int, i ≤ j → j < (l.length : Int) → shC l j) ∧ (l.length : Int) ≤ 60)) ?_ 0 ⟨Int.le_refl _, by omega, fun j a b => by omega⟩
  rintro i ⟨h0, h1, hp⟩ ih
  have hno : i < (l.length : Int) → ¬ shC l i → Tot (fun _ => some false) (fun b => (b = true) ↔ ((∀ j : Int, i ≤ j → j < (l.length : Int) → shC l j) ∧ (l.length : Int) ≤ 60)) := fun a b => tsome (all_no a b)
  have hjT : i < (l.length : Int) → ¬ shA l i → Tot (fun k => spec_shGood.j1 k l i l (l.length : Int) i true (rd_T119 l i).f0 (rd_T119 l i).f1 (rd_T119 l i).f2) (fun b => (b = true) ↔ ((∀ j : Int, i ≤ j → j < (l.length : Int) → shC l j) ∧ (l.length : Int) ≤ 60)) := by
    intro a b
    refine tstep ?_
    simp only [spec_shGood.j1, if_true]
    exact hno a (fun h => b ⟨h.1, h.2.1⟩)
  have hjF : i < (l.length : Int) → shA l i → Tot (fun k => spec_shGood.j1 k l i l (l.length : Int) i false (rd_T119 l i).f0 (rd_T119 l i).f1 (rd_T119 l i).f2) (fun b => (b = true) ↔ ((∀ j : Int, i ≤ j → j < (l.length : Int) → shC l j) ∧ (l.length : Int) ≤ 60)) := by
    intro a hA
    refine tstep ?_
    simp only [spec_shGood.j1, Option.bind_some]
    refine tneg (by simp) (tpos h0 (tpos h1 ?_))
    have hlen : ((l.take i.toNat).length : Int) = i := by simp; omega
    rw [hlen]
    refine trec (σ := Int) (fun p k => spec_shGood.l1 k l l (l.length : Int) i (l.take i.toNat) i p (rd_T119 l i).f0 (rd_T119 l i).f1 (rd_T119 l i).f2) (fun p => (i - p).toNat) (fun p => 0 ≤ p ∧ p ≤ i ∧ ∀ q : Int, 0 ≤ q → q < p → ¬ shMeet (rd_T119 l q) (rd_T119 l i))
      (fun _ => (fun b => (b = true) ↔ ((∀ j : Int, i ≤ j → j < (l.length : Int) → shC l j) ∧ (l.length : Int) ≤ 60))) ?_ 0 ⟨Int.le_refl _, h0, fun q a b => by omega⟩
    rintro p ⟨p0, p1, pq⟩ ihp
    simp only [spec_shGood.l1, hlen, wrap64_id (show -9223372036854775808 ≤ i + 1 by omega) (by omega), wrap64_id (show -9223372036854775808 ≤ p + 1 by omega) (by omega)]
    refine tite (fun c => ?_) (fun c => ?_)
    · refine tpos p0 (tpos c ?_)
      simp only [sh_take l i p p0 c]
      have hs := sh_start l i hp hA.2 p p0 c
      have o1 := (hp p p0 c).1
      have o2 := hA.1
      skip
      have go : ¬ shMeet (rd_T119 l p) (rd_T119 l i) → Tot (fun k => spec_shGood.l1 k l l (l.length : Int) i (l.take i.toNat) i (p + 1) (rd_T119 l i).f0 (rd_T119 l i).f1 (rd_T119 l i).f2) (fun b => (b = true) ↔ ((∀ j : Int, i ≤ j → j < (l.length : Int) → shC l j) ∧ (l.length : Int) ≤ 60)) := fun hm =>
        ihp (p + 1) ⟨by omega, by omega, fun q q0 q1 => by
          by_cases e : q = p
          · rw [e]; exact hm
          · exact pq q q0 (by omega)⟩ (by (try dsimp only); omega)
      repeat' (refine tite (fun _ => ?_) (fun _ => ?_))
      all_goals first
        | exact go (by unfold shMeet; omega)
        | exact hno a (fun h => h.2.2 p p0 c (by unfold shMeet; omega))
    · have Ci : shC l i := ⟨hA.1, hA.2, fun q q0 q1 => pq q q0 (by omega)⟩
      exact tmono (ih (i + 1) ⟨by omega, by omega, fun j j0 j1 => by
        by_cases e : j = i
        · rw [e]; exact Ci
        · exact hp j j0 (by omega)⟩ (by (try dsimp only); omega)) (fun b hb => all_go a Ci hb)
  simp only [spec_shGood.l0, shHole_eq, shBefore_eq, Option.bind_some, decide_eq_true_eq]
  simp only [show wrap64 (i - 1) = i - 1 from wrap64_id (by omega) (by omega)]
  by_cases hL : shLess (rd_T119 l (i - 1)) (rd_T119 l i)
  all_goals
    have hL2 := hL
    unfold shLess at hL2
    simp only [hL2, decide_true, decide_false, Bool.not_true, Bool.not_false]
    repeat' (refine tite (fun _ => ?_) (fun _ => ?_))
    all_goals first
      | (exfalso; omega)
      | exact hjF (by omega) ⟨by assumption, fun _ => hL⟩
      | exact hjF (by omega) ⟨by assumption, fun h => absurd h (by omega)⟩
      | exact hjT (by omega) (fun h => absurd h.1 (by assumption))
      | exact hjT (by omega) (fun h => absurd (h.2 (by omega)) hL)
      | exact tsome (all_end (by omega) (by simp only [decide_eq_true_eq]))

theorem sh_impl_IsSheet_loop (l : List S119) (hl : l.length ≤ 1048576) : Tot (fun k => impl_IsSheet.l0 k l l (l.length : Int) 0) (fun b => (b = true) ↔ ((∀ j : Int, 0 ≤ j → j < (l.length : Int) → shC l j) ∧ True)) := by
  refine trec (σ := Int) (fun i k => impl_IsSheet.l0 k l l (l.length : Int) i) (fun i => ((l.length : Int) - i).toNat) (fun i => 0 ≤ i ∧ i ≤ (l.length : Int) ∧ ∀ j : Int, 0 ≤ j → j < i → shC l j)
    (fun i b => (b = true) ↔ ((∀ j : Int, i ≤ j → j < (l.length : Int) → shC l j) ∧ True)) ?_ 0 ⟨Int.le_refl _, by omega, fun j a b => by omega⟩
  rintro i ⟨h0, h1, hp⟩ ih
  have hno : i < (l.length : Int) → ¬ shC l i → Tot (fun _ => some false) (fun b => (b = true) ↔ ((∀ j : Int, i ≤ j → j < (l.length : Int) → shC l j) ∧ True)) := fun a b => tsome (all_no a b)
  have hjT : i < (l.length : Int) → ¬ shA l i → Tot (fun k => impl_IsSheet.j1 k l i l (l.length : Int) i true (rd_T119 l i).f0 (rd_T119 l i).f1 (rd_T119 l i).f2) (fun b => (b = true) ↔ ((∀ j : Int, i ≤ j → j < (l.length : Int) → shC l j) ∧ True)) := by
    intro a b
    refine tstep ?_
    simp only [impl_IsSheet.j1, if_true]
    exact hno a (fun h => b ⟨h.1, h.2.1⟩)
  have hjF : i < (l.length : Int) → shA l i → Tot (fun k => impl_IsSheet.j1 k l i l (l.length : Int) i false (rd_T119 l i).f0 (rd_T119 l i).f1 (rd_T119 l i).f2) (fun b => (b = true) ↔ ((∀ j : Int, i ≤ j → j < (l.length : Int) → shC l j) ∧ True)) := by
    intro a hA
    refine tstep ?_
    simp only [impl_IsSheet.j1, Option.bind_some]
    refine tneg (by simp) (tpos h0 (tpos h1 ?_))
    have hlen : ((l.take i.toNat).length : Int) = i := by simp; omega
    rw [hlen]
    refine trec (σ := Int) (fun p k => impl_IsSheet.l1 k l l (l.length : Int) i (l.take i.toNat) i p (rd_T119 l i).f0 (rd_T119 l i).f1 (rd_T119 l i).f2) (fun p => (i - p).toNat) (fun p => 0 ≤ p ∧ p ≤ i ∧ ∀ q : Int, 0 ≤ q → q < p → ¬ shMeet (rd_T119 l q) (rd_T119 l i))
      (fun _ => (fun b => (b = true) ↔ ((∀ j : Int, i ≤ j → j < (l.length : Int) → shC l j) ∧ True))) ?_ 0 ⟨Int.le_refl _, h0, fun q a b => by omega⟩
    rintro p ⟨p0, p1, pq⟩ ihp
    simp only [impl_IsSheet.l1, hlen, wrap64_id (show -9223372036854775808 ≤ i + 1 by omega) (by omega), wrap64_id (show -9223372036854775808 ≤ p + 1 by omega) (by omega)]
    refine tite (fun c => ?_) (fun c => ?_)
    · refine tpos p0 (tpos c ?_)
      simp only [sh_take l i p p0 c]
      have hs := sh_start l i hp hA.2 p p0 c
      have o1 := (hp p p0 c).1
      have o2 := hA.1
      skip
      have go : ¬ shMeet (rd_T119 l p) (rd_T119 l i) → Tot (fun k => impl_IsSheet.l1 k l l (l.length : Int) i (l.take i.toNat) i (p + 1) (rd_T119 l i).f0 (rd_T119 l i).f1 (rd_T119 l i).f2) (fun b => (b = true) ↔ ((∀ j : Int, i ≤ j → j < (l.length : Int) → shC l j) ∧ True)) := fun hm =>
        ihp (p + 1) ⟨by omega, by omega, fun q q0 q1 => by
          by_cases e : q = p
          · rw [e]; exact hm
          · exact pq q q0 (by omega)⟩ (by (try dsimp only); omega)
      repeat' (refine tite (fun _ => ?_) (fun _ => ?_))
      all_goals first
        | exact go (by unfold shMeet; omega)
        | exact hno a (fun h => h.2.2 p p0 c (by unfold shMeet; omega))
    · have Ci : shC l i := ⟨hA.1, hA.2, fun q q0 q1 => pq q q0 (by omega)⟩
      exact tmono (ih (i + 1) ⟨by omega, by omega, fun j j0 j1 => by
        by_cases e : j = i
        · rw [e]; exact Ci
        · exact hp j j0 (by omega)⟩ (by (try dsimp only); omega)) (fun b hb => all_go a Ci hb)
  simp only [impl_IsSheet.l0, implIsHole_eq, holeLess_eq, Option.bind_some, decide_eq_true_eq]
  simp only [show wrap64 (i - 1) = i - 1 from wrap64_id (by omega) (by omega)]
  by_cases hL : shLess (rd_T119 l (i - 1)) (rd_T119 l i)
  all_goals
    have hL2 := hL
    unfold shLess at hL2
    simp only [hL2, decide_true, decide_false, Bool.not_true, Bool.not_false]
    repeat' (refine tite (fun _ => ?_) (fun _ => ?_))
    all_goals first
      | (exfalso; omega)
      | exact hjF (by omega) ⟨by assumption, fun _ => hL⟩
      | exact hjF (by omega) ⟨by assumption, fun h => absurd h (by omega)⟩
      | exact hjT (by omega) (fun h => absurd h.1 (by assumption))
      | exact hjT (by omega) (fun h => absurd (h.2 (by omega)) hL)
      | exact tsome (all_end (by omega) (by simp))

theorem shGood_tot (l : List S119) (hl : l.length ≤ 1048576) : Tot (fun k => spec_shGood.f k l) (fun b => (b = true) ↔ shGood l) := by
  unfold spec_shGood.f
  exact sh_spec_shGood_loop l hl
theorem isSheet_tot (l : List S119) (hl : l.length ≤ 1048576) : Tot (fun k => impl_IsSheet.f k l) (fun b => (b = true) ↔ shGood l) := by
  unfold impl_IsSheet.f shGood
  refine tite (fun c => tsome ⟨(fun h => by simp at h), (fun h => by have := h.2; omega)⟩) (fun c => ?_)
  refine tmono (sh_impl_IsSheet_loop l hl) (fun b hb => ?_)
  rw [hb]
  exact ⟨fun h => ⟨h.1, by omega⟩, fun h => ⟨h.1, trivial⟩⟩

def mkHole (j : Int) (n : Nat) : List S119 := (List.range n).map fun i : Nat => (⟨j + 3 * (i : Int) + 0, j + 3 * (i : Int) + 1, j + 3 * (i : Int) + 2⟩ : S119)
theorem mkHole_at (j : Int) (n : Nat) (i : Int) (h0 : 0 ≤ i) (h : i < n) : rd_T119 (mkHole j n) i = ⟨j + 3 * i + 0, j + 3 * i + 1, j + 3 * i + 2⟩ := by
  obtain ⟨m, rfl⟩ := Int.eq_ofNat_of_zero_le h0
  have hm : m < n := by omega
  unfold rd_T119 mkHole
  simp [List.getD, hm]
theorem markHoleS (l : List S119) (j : Int) (hl : l.length ≤ 1048576) (hj : 0 ≤ j) (hj2 : j ≤ 1125899906842624) : Tot (fun k => laws_markHoleS.f k l j) (fun r => r = (j + 3 * (l.length : Int), mkHole j l.length)) := by
  unfold laws_markHoleS.f
  have key := trec (σ := List S119 × Int) (fun s k => laws_markHoleS.l0 k s.1 (j + 3 * s.2) s.2) (fun s => ((l.length : Int) - s.2).toNat)
    (fun s => 0 ≤ s.2 ∧ s.2 ≤ (l.length : Int) ∧ s.1.length = l.length ∧ ∀ i : Int, 0 ≤ i → i < s.2 → rd_T119 s.1 i = rd_T119 (mkHole j l.length) i) (fun _ r => r = (j + 3 * (l.length : Int), mkHole j l.length)) ?_
  · have h := key (l, 0) ⟨Int.le_refl _, by dsimp only; omega, rfl, fun i h0 h1 => by dsimp only at h1; omega⟩
    simpa using h
  · rintro ⟨ys, i⟩ ⟨h0, h1, h2, h3⟩ ih
    dsimp only at h0 h1 h2 h3
    simp only [laws_markHoleS.l0, Option.bind_some]
    refine tite (fun c => ?_) (fun c => ?_)
    · refine tpos h0 ?_
      have hi : i.toNat < ys.length := by omega
      have e : ∀ x : S119, rd_T119 (ys.set i.toNat x) i = x := fun x => by
        unfold rd_T119; exact ld_set_self x i (by omega) h0
      simp only [e, List.set_set, wrap64_id (x := j + 3 * i + 1) (by omega) (by omega), wrap64_id (x := j + 3 * i + 1 + 1) (by omega) (by omega), wrap64_id (x := j + 3 * i + 1 + 1 + 1) (by omega) (by omega)]
      rw [show j + 3 * i + 1 + 1 + 1 = j + 3 * (i + 1) by omega, wrap64_id (x := i + 1) (by omega) (by omega)]
      refine ih (_, i + 1) ⟨by dsimp only; omega, by dsimp only; omega, by simp [h2], ?_⟩ (by dsimp only; omega)
      intro p p0 p1
      dsimp only at p1 ⊢
      by_cases ep : p = i
      · subst ep
        rw [e, mkHole_at j _ p p0 (by omega)]
        congr 1 <;> omega
      · unfold rd_T119
        rw [ld_set_ne _ _ _ h0 p0 (by omega)]
        exact h3 p p0 (by omega)
    · obtain rfl : i = (l.length : Int) := by omega
      refine tsome ?_
      congr 1
      refine ld_ext (z := z119) (by simp [mkHole, h2]) (fun p p0 p1 => ?_)
      exact h3 p p0 (by omega)

theorem heldHoleS (j : Int) (n : Nat) (hn : n ≤ 1048576) (hj : 0 ≤ j) (hj2 : j ≤ 1125899906842624) : Tot (fun k => laws_heldHoleS.f k (mkHole j n) j) (fun r => r = j + 3 * (n : Int)) := by
  unfold laws_heldHoleS.f
  have hlen : ((mkHole j n).length : Int) = n := by simp [mkHole]
  have key := trec (σ := Int) (fun i k => laws_heldHoleS.l0 k (mkHole j n) (j + 3 * i) i) (fun i => ((n : Int) - i).toNat) (fun i => 0 ≤ i ∧ i ≤ (n : Int)) (fun _ r => r = j + 3 * (n : Int)) ?_ 0 ⟨Int.le_refl _, by omega⟩
  · simpa using key
  · rintro i ⟨h0, h1⟩ ih
    simp only [laws_heldHoleS.l0, hlen]
    refine tite (fun c => ?_) (fun c => ?_)
    · refine tpos h0 ?_
      simp only [mkHole_at j n i h0 c]
      simp only [wrap64_id (x := j + 3 * i + 1) (by omega) (by omega), wrap64_id (x := j + 3 * i + 1 + 1) (by omega) (by omega), wrap64_id (x := j + 3 * i + 1 + 1 + 1) (by omega) (by omega)]
      refine tpos (by first | trivial | omega) ?_
      refine tpos (by first | trivial | omega) ?_
      refine tpos (by first | trivial | omega) ?_
      rw [show j + 3 * i + 1 + 1 + 1 = j + 3 * (i + 1) by omega, wrap64_id (x := i + 1) (by omega) (by omega)]
      exact ih (i + 1) ⟨by omega, by omega⟩ (by (try dsimp only); omega)
    · exact tsome (by omega)

def inpl {α : Type} (f : α → α) (l : List α) (i : Nat) : List α := (l.take i).map f ++ l.drop i
theorem inpl_len {α : Type} (f : α → α) (l : List α) (i : Nat) (h : i ≤ l.length) : (inpl f l i).length = l.length := by
  unfold inpl; simp; omega
theorem inpl_zero {α : Type} (f : α → α) (l : List α) : inpl f l 0 = l := by simp [inpl]
theorem inpl_end {α : Type} (f : α → α) (l : List α) : inpl f l l.length = l.map f := by simp [inpl]
theorem inpl_at {α : Type} (z : α) (f : α → α) (l : List α) (i : Nat) (h : i < l.length) : (inpl f l i).getD i z = l.getD i z := by
  unfold inpl
  have h1 : ((l.take i).map f).length = i := by simp; omega
  rw [List.getD, List.getElem?_append_right (by omega), h1, Nat.sub_self]
  simp [List.getD, h]
theorem inpl_set {α : Type} (z : α) (f : α → α) (l : List α) (i : Nat) (h : i < l.length) : (inpl f l i).set i (f (l.getD i z)) = inpl f l (i + 1) := by
  unfold inpl
  have h1 : ((l.take i).map f).length = i := by simp; omega
  rw [List.set_append_right _ _ (by omega), h1, Nat.sub_self, List.drop_eq_getElem_cons h, List.set_cons_zero, List.take_succ_eq_append_getElem h, List.map_append, List.append_assoc]
  simp [List.getD, h]
theorem take_up {α β : Type} (z : α) (f : α → β) (l : List α) (i : Nat) (h : i < l.length) : (l.take (i + 1)).map f = (l.take i).map f ++ [f (l.getD i z)] := by
  rw [List.take_succ_eq_append_getElem h, List.map_append]
  simp [List.getD, h]

theorem cloneHole (l : List S119) (hl : l.length ≤ 1048576) : clone_Hole.f l = some l := by
  unfold clone_Hole.f
  simp only [Option.bind_some]
  rw [if_pos (by simp; omega)]
  rfl

theorem tlet {α β : Type} {v : α} {g : Nat → α → Option β} {Q : β → Prop} (h : Tot (fun k => g k v) Q) : Tot (fun k => (some v).bind fun y => g k y) Q := h
theorem take_drop_erase {α : Type} (l : List α) (m : Nat) : l.take m ++ l.drop (m + 1) = l.eraseIdx m := (List.eraseIdx_eq_take_drop_succ l m).symm
theorem wrapN1 (m : Nat) (h : m ≤ 1048576) : wrap64 ((m : Int) + 1) = ((m + 1 : Nat) : Int) := by rw [wrap64_id (by omega) (by omega)]; rfl
theorem erase_len {α : Type} (l : List α) (m : Nat) (h : l.length ≤ 1048576) : (l.eraseIdx m).length ≤ 1048576 := Nat.le_trans (List.length_eraseIdx_le l m) h

theorem deleteHole (l : List S119) (m : Nat) (h : m < l.length) (hl : l.length ≤ 1048576) : delete_Hole.f l (m : Int) ((m + 1 : Nat) : Int) = some (l.eraseIdx m) := by
  unfold delete_Hole.f
  rw [if_pos (by omega), if_pos (by omega), if_pos (wrapN1 m (by omega)).symm, Int.toNat_natCast]

theorem shDrop_tot (l : List S119) (m : Nat) (h : m < l.length) (hl : l.length ≤ 1048576) : Tot (fun _ => spec_shDrop.f l (m : Int)) (fun r => r = l.eraseIdx m) := by
  unfold spec_shDrop.f
  rw [wrapN1 m (by omega), Int.toNat_natCast, Int.toNat_natCast]
  refine tlet ?_
  refine tpos (by omega) (tpos (by omega) ?_)
  refine tlet ?_
  refine tpos (by rw [List.length_take, List.length_nil]; omega) ?_
  refine tlet ?_
  refine tpos (by omega) (tpos (by omega) ?_)
  refine tlet ?_
  refine tpos (by rw [List.length_append, List.length_take, List.length_drop, List.length_nil]; omega) (tsome ?_)
  rw [List.nil_append, take_drop_erase]

theorem DropHole_agree (l : List S119) (p : Int) (hl : l.length ≤ 1048576) : ∃ r, Tot (fun k => spec_DropHole.f k l p) (fun y => y = r) ∧ Tot (fun k => impl_DropHole.f k l p) (fun y => y = r) ∧ r.1.length ≤ 1048576 := by
  have iF : Tot (fun k => impl_DropHole.j0 k l p true) (fun y => y = ([], false)) := by
    refine tstep ?_
    simp only [impl_DropHole.j0, if_true]
    exact tsome rfl
  by_cases hg : shGood l ∧ 0 ≤ p ∧ p ≤ (l.length : Int) - 1
  · obtain ⟨hg, hp⟩ := hg
    obtain ⟨m, rfl⟩ := Int.eq_ofNat_of_zero_le (show 0 ≤ p by omega)
    refine ⟨(l.eraseIdx m, true), ?_, ?_, erase_len l m hl⟩
    · unfold spec_DropHole.f
      refine tbind (shGood_tot l hl) (fun b h => tpos (h.2 hg) ?_)
      rw [l1In_eq, wrap64_id (x := (l.length : Int) - 1) (by omega) (by omega), decide_eq_true hp]
      refine tlet (tpos rfl ?_)
      exact tbind (shDrop_tot l m (by omega) hl) (fun _ e => by subst e; exact tsome rfl)
    · unfold impl_DropHole.f
      refine tbind (isSheet_tot l hl) (fun b h => tpos (h.2 hg) (tneg (by omega) ?_))
      rw [decide_eq_false (show ¬ ((m : Int) ≥ (l.length : Int)) by omega)]
      refine tstep ?_
      simp only [impl_DropHole.j0, cloneHole l hl, Option.bind_some, wrapN1 m (show m ≤ 1048576 by omega), deleteHole l m (show m < l.length by omega) hl]
      exact tneg (by simp) (tsome rfl)
  · refine ⟨([], false), ?_, ?_, by simp⟩
    · unfold spec_DropHole.f
      refine tbind (shGood_tot l hl) (fun b h => tite (fun c => ?_) (fun c => tsome rfl))
      rw [l1In_eq, wrap64_id (x := (l.length : Int) - 1) (by omega) (by omega), decide_eq_false (fun hh => hg ⟨h.1 c, hh⟩)]
      exact tlet (tneg (by simp) (tsome rfl))
    · unfold impl_DropHole.f
      refine tbind (isSheet_tot l hl) (fun b h => tite (fun c => tite (fun c2 => iF) (fun c2 => ?_)) (fun c => iF))
      rw [decide_eq_true (show p ≥ (l.length : Int) from Classical.byContradiction fun hh => hg ⟨h.1 c, by omega⟩)]
      exact iF


theorem FnExactDropHole (l0 : List (S121)) (a1 : Int) (hm0 : l0.length ≤ 9223372036854775807) (hw0 : ∀ y ∈ l0, Glue.wf64 y.f0 ∧ Glue.wf64 y.f1 ∧ Glue.wf64 y.f2) (w1 : Glue.wf64 a1) : ∃ k, laws_FnExactDropHole.f k l0 a1 = some true := by
  refine rounds ?_
  unfold laws_FnExactDropHole.f
  rw [szHoleS l0 (1048576 : Int) (by omega) (by omega) hm0]
  simp only [Option.bind_some]
  by_cases hl0 : (1048576 : Int) < (l0.length : Int)
  · simp only [if_pos hl0]; exact tpos (by omega) (tsome rfl)
  simp only [if_neg hl0]
  refine tneg (by omega) ?_
  obtain ⟨r, hS, hI, hR⟩ := DropHole_agree (l0.map cvHole) a1 (by simp; omega)
  repeat first
    | exact tsome rfl
    | (refine tbind hS (fun _ e => ?_); subst e)
    | (refine tbind hI (fun _ e => ?_); subst e)
    | (refine tbind (toHoleS l0 (by omega)) (fun _ e => ?_); subst e)
    | (refine tbind (eqHoleS _ (by first | omega | (dsimp only; omega) | (simp; omega) | assumption)) (fun _ e => ?_); subst e)
    | (refine tbind (eqHoleS _ (by first | assumption | omega | (dsimp only; omega) | (simp; omega))) (fun _ e => ?_); subst e)
    | (refine tbind (markHoleS _ 1 (by first | assumption | omega | (dsimp only; omega) | (simp; omega)) (by omega) (by omega)) (fun _ e => ?_); subst e)
    | (refine tbind (heldHoleS 1 _ (by first | omega | (simp; omega)) (by omega) (by omega)) (fun _ e => ?_); subst e)
    | (refine tbind (markHoleS _ _ (by first | omega | (simp; omega)) (by omega) (by omega)) (fun _ e => ?_); subst e)
    | refine tpos rfl ?_
    | refine tneg (by dsimp only; omega) ?_
    | refine tneg (by omega) ?_
    | refine tneg (by simp; done) ?_
    | refine tpos (by dsimp only) ?_
    | (refine tstep ?_; simp only [laws_FnExactDropHole.j0])
    | (refine tstep ?_; simp only [laws_FnExactDropHole.j1])
    | (refine tstep ?_; simp only [laws_FnExactDropHole.j2])
end Go.Proofs.Ytioagkpinneheaa.Pure
