/- The plain side of the law FnTempoChanges: lists and numbers alone. -/
import Derived.Test.YtgeipgflhjakjaaPFnTempoChangesx15
import Derived.Test.YtgeipgflhjakjaaGlue
import Derived.Test.YtgeipgflhjakjaaTot
import Derived.Laws.Bits64b
set_option linter.unusedVariables false
set_option linter.unusedSimpArgs false
namespace Go.Proofs.Ytgeipgflhjakjaa.Pure
open Go.RowKit Go.Proofs.Ytgeipgflhjakjaa.PFnTempoChanges Go.Proofs.YtgeipgflhjakjaaW.PrintWords Go.Proofs.YtgeipgflhjakjaaW.PrintMore Go.Proofs.Ytgeipgflhjakjaa.Tot

theorem l1In_eq (a b c : Int) : spec_l1In.f a b c = some (decide (b ≤ a ∧ a ≤ c)) := by
  unfold spec_l1In.f
  by_cases h : b ≤ a <;> simp [h]

def OkChange (x : S41) : Prop := 0 ≤ x.f0 ∧ x.f0 ≤ 2000 ∧ 1000 ≤ x.f1 ∧ x.f1 ≤ 1000000
theorem teChange_eq (a b : Int) : spec_teChange.f a b = some (decide (0 ≤ a ∧ a ≤ 2000 ∧ 1000 ≤ b ∧ b ≤ 1000000)) := by
  unfold spec_teChange.f
  simp only [l1In_eq, Option.bind_some, decide_eq_true_eq]
  split
  · congr 1; rw [Bool.eq_iff_iff]; simp only [decide_eq_true_eq]; omega
  · congr 1; rw [Bool.eq_iff_iff]; simp only [decide_eq_true_eq]; simp; omega
theorem isChange_eq (a b : Int) : impl_isChange.f a b = some (decide (0 ≤ a ∧ a ≤ 2000 ∧ 1000 ≤ b ∧ b ≤ 1000000)) := by
  unfold impl_isChange.f
  by_cases h1 : 0 ≤ a <;> by_cases h2 : a ≤ 2000 <;> by_cases h3 : 1000 ≤ b <;> simp [h1, h2, h3] <;> omega
def TeC (l : List S41) (j : Int) : Prop := OkChange (rd_T41 l j) ∧ (j = 0 → (rd_T41 l j).f0 = 0) ∧ (0 < j → (rd_T41 l (j - 1)).f0 < (rd_T41 l j).f0)
def TeGood (l : List S41) : Prop := (∀ j : Int, 0 ≤ j → j < (l.length : Int) → TeC l j) ∧ (1 ≤ (l.length : Int) ∧ (l.length : Int) ≤ 20)
theorem teGood_tot (l : List S41) (hl : l.length ≤ 1048576) : Tot (fun k => spec_teGood.f k l) (fun b => (b = true) ↔ TeGood l) := by
  unfold spec_teGood.f
  refine trec (σ := Int) (fun i k => spec_teGood.l0 k l l (l.length : Int) i) (fun i => ((l.length : Int) - i).toNat) (fun i => 0 ≤ i ∧ i ≤ (l.length : Int))
    (fun i b => (b = true) ↔ ((∀ j : Int, i ≤ j → j < (l.length : Int) → TeC l j) ∧ (1 ≤ (l.length : Int) ∧ (l.length : Int) ≤ 20))) ?_ 0 ⟨Int.le_refl _, by omega⟩
  rintro i ⟨h0, h1⟩ ih
  simp only [spec_teGood.l0, teChange_eq, l1In_eq, Option.bind_some, decide_eq_true_eq]
  simp only [show wrap64 (i + 1) = i + 1 from wrap64_id (by omega) (by omega), show wrap64 (i - 1) = i - 1 from wrap64_id (by omega) (by omega)]
  repeat' (refine tite (fun _ => ?_) (fun _ => ?_))
  all_goals first
    | (exfalso; omega)
    | exact tsome (all_no (by omega) (by unfold TeC OkChange; omega))
    | exact tmono (ih (i + 1) ⟨by omega, by omega⟩ (by (try dsimp only); omega)) (fun b hb => all_go (by omega) (by unfold TeC OkChange; omega) hb)
    | exact tsome (all_end (by omega) (by simp only [decide_eq_true_eq]))
theorem areTempos_tot (l : List S41) (hl : l.length ≤ 1048576) : Tot (fun k => impl_AreTempos.f k l) (fun b => (b = true) ↔ TeGood l) := by
  have key : 1 ≤ (l.length : Int) → (l.length : Int) ≤ 20 → (rd_T41 l 0).f0 = 0 → Tot (fun k => impl_AreTempos.l0 k l l (l.length : Int) 0) (fun b => (b = true) ↔ TeGood l) := by
    intro g1 g2 g3
    refine tmono (trec (σ := Int) (fun i k => impl_AreTempos.l0 k l l (l.length : Int) i) (fun i => ((l.length : Int) - i).toNat) (fun i => 0 ≤ i ∧ i ≤ (l.length : Int))
      (fun i b => (b = true) ↔ ((∀ j : Int, i ≤ j → j < (l.length : Int) → TeC l j) ∧ True)) ?_ 0 ⟨Int.le_refl _, by omega⟩) (fun b hb => ?_)
    · rintro i ⟨h0, h1⟩ ih
      have g4 : i = 0 → (rd_T41 l i).f0 = 0 := by rintro rfl; exact g3
      simp only [impl_AreTempos.l0, isChange_eq, Option.bind_some, decide_eq_true_eq]
      simp only [show wrap64 (i + 1) = i + 1 from wrap64_id (by omega) (by omega), show wrap64 (i - 1) = i - 1 from wrap64_id (by omega) (by omega)]
      repeat' (refine tite (fun _ => ?_) (fun _ => ?_))
      all_goals first
        | (exfalso; omega)
        | exact tsome (all_no (by omega) (by unfold TeC OkChange; omega))
        | exact tmono (ih (i + 1) ⟨by omega, by omega⟩ (by (try dsimp only); omega)) (fun b hb => all_go (by omega) (by unfold TeC OkChange; omega) hb)
        | exact tsome (all_end (by omega) (by simp))
    · rw [hb]; unfold TeGood
      exact ⟨fun h => ⟨h.1, g1, g2⟩, fun h => ⟨h.1, trivial⟩⟩
  have no : ∀ g : Nat → Option Bool, (∀ k, g k = impl_AreTempos.j0 k l true) → ¬ TeGood l → Tot g (fun b => (b = true) ↔ TeGood l) := by
    intro g hg hn
    refine tstep (tconst (r := false) (fun k => ?_) ⟨fun h => by simp at h, fun h => absurd h hn⟩)
    rw [hg]; simp only [impl_AreTempos.j0, if_true]
  unfold impl_AreTempos.f
  refine tite (fun c => no _ (fun _ => rfl) (fun h => by have := h.2; omega)) (fun c1 => ?_)
  refine tite (fun c => no _ (fun _ => rfl) (fun h => by have := h.2; omega)) (fun c2 => ?_)
  refine tpos (by omega) ?_
  by_cases h : (rd_T41 l 0).f0 = 0
  · rw [show ((rd_T41 l 0).f0 != 0) = false by simp [h]]
    refine tstep ?_
    simp only [impl_AreTempos.j0]
    exact tneg (by simp) (key (by omega) (by omega) h)
  · rw [show ((rd_T41 l 0).f0 != 0) = true by simp [h]]
    exact no _ (fun _ => rfl) (fun g => h ((g.1 0 (by omega) (by omega)).2.1 rfl))

theorem rd_eq (xs : List Int) (i : Int) : rd xs i = xs.getD i.toNat 0 := rfl

theorem gcd_step (a b : Int) (ha : 0 ≤ a) (hb : 0 < b) : 0 ≤ Int.tmod a b ∧ Int.tmod a b < b ∧ Nat.gcd b.toNat (Int.tmod a b).toNat = Nat.gcd a.toNat b.toNat := by
  obtain ⟨m, rfl⟩ := Int.eq_ofNat_of_zero_le ha
  obtain ⟨n, rfl⟩ := Int.eq_ofNat_of_zero_le (Int.le_of_lt hb)
  have e : Int.tmod (m : Int) (n : Int) = ((m % n : Nat) : Int) := rfl
  rw [e]
  have h1 : m % n < n := Nat.mod_lt _ (by omega)
  refine ⟨by omega, by omega, ?_⟩
  simp only [Int.toNat_natCast]
  rw [Nat.gcd_comm m n, Nat.gcd_rec n m, Nat.gcd_comm]
theorem gcd_tot (a b : Int) (ha : 0 ≤ a) (hb : 0 ≤ b) : Tot (fun k => impl_gcd.f k a b) (fun r => r = (Nat.gcd a.toNat b.toNat : Int)) := by
  unfold impl_gcd.f
  refine trec (σ := Int × Int) (fun s k => impl_gcd.l0 k s.1 s.2) (fun s => s.2.toNat) (fun s => 0 ≤ s.1 ∧ 0 ≤ s.2 ∧ Nat.gcd s.1.toNat s.2.toNat = Nat.gcd a.toNat b.toNat) (fun _ r => r = (Nat.gcd a.toNat b.toNat : Int)) ?_ (a, b) ⟨ha, hb, rfl⟩
  rintro ⟨x, y⟩ ⟨hx, hy, hg⟩ ih
  dsimp only at hx hy hg
  simp only [impl_gcd.l0]
  refine tite (fun c => tsome ?_) (fun c => ?_)
  · subst c
    rw [← hg]
    simp
    omega
  · obtain ⟨h1, h2, h3⟩ := gcd_step x y hx (by omega)
    exact ih (y, Int.tmod x y) ⟨hy, h1, by dsimp only; rw [h3, hg]⟩ (by dsimp only; omega)
theorem gcd_pos (a b : Int) (hb : 0 < b) : 0 < (Nat.gcd a.toNat b.toNat : Int) := by
  have : 0 < Nat.gcd a.toNat b.toNat := Nat.gcd_pos_of_pos_right _ (by omega)
  omega
theorem tdiv_eq (a g : Int) (ha : 0 ≤ a) (ha2 : a ≤ 4611686018427387904) (hg : 0 < g) : wrap64 (Int.tdiv a g) = a / g := by
  rw [Int.tdiv_eq_ediv_of_nonneg ha]
  have h1 : 0 ≤ a / g := Int.ediv_nonneg ha (by omega)
  have h2 : a / g ≤ a := Int.ediv_le_self _ ha
  exact wrap64_id (by omega) (by omega)

theorem lowest_tot (a b : Int) (ha : 0 ≤ a) (ha2 : a ≤ 4611686018427387904) (hb : 0 < b) (hb2 : b ≤ 4611686018427387904) : Tot (fun k => impl_lowest.f k a b) (fun r => r = (a / (Nat.gcd a.toNat b.toNat : Int), b / (Nat.gcd a.toNat b.toNat : Int))) := by
  unfold impl_lowest.f
  refine tbind (gcd_tot a b ha (by omega)) (fun _ e => ?_); subst e
  have hg := gcd_pos a b hb
  refine tneg (by omega) ?_
  exact tsome (by rw [tdiv_eq a _ ha ha2 hg, tdiv_eq b _ (by omega) hb2 hg])

theorem tePart_tot (a b : Int) (ha : 0 ≤ a) (ha2 : a ≤ 4611686018427387904) (hb : 0 < b) (hb2 : b ≤ 4611686018427387904) : Tot (fun k => spec_tePart.f k a b) (fun r => r = (a / (Nat.gcd a.toNat b.toNat : Int), b / (Nat.gcd a.toNat b.toNat : Int))) := by
  unfold spec_tePart.f
  have _h0 := ha
  have hg := gcd_pos a b hb
  refine trec (σ := Int × Int) (fun s k => spec_tePart.l0 k a b s.1 s.2) (fun s => s.2.toNat) (fun s => 0 ≤ s.1 ∧ 0 ≤ s.2 ∧ Nat.gcd s.1.toNat s.2.toNat = Nat.gcd a.toNat b.toNat) (fun _ r => r = (a / (Nat.gcd a.toNat b.toNat : Int), b / (Nat.gcd a.toNat b.toNat : Int))) ?_ (a, b) ⟨ha, by dsimp only; omega, rfl⟩
  rintro ⟨x, y⟩ ⟨hx, hy, hgx⟩ ih
  dsimp only at hx hy hgx
  simp only [spec_tePart.l0]
  refine tite (fun c => ?_) (fun c => ?_)
  · refine tneg (by omega) ?_
    obtain ⟨h1, h2, h3⟩ := gcd_step x y hx c
    exact ih (y, Int.tmod x y) ⟨hy, h1, by dsimp only; rw [h3, hgx]⟩ (by dsimp only; omega)
  · obtain rfl : y = 0 := by omega
    have e : x = (Nat.gcd a.toNat b.toNat : Int) := by
      rw [← hgx]; simp; omega
    refine tneg (by omega) ?_
    exact tsome (by rw [e, tdiv_eq a _ ha ha2 hg, tdiv_eq b _ (by omega) hb2 hg])

theorem te_mono (l : List S41) (hg : TeGood l) (p q : Int) (p0 : 0 ≤ p) (h : p ≤ q) (hq : q < (l.length : Int)) : (rd_T41 l p).f0 ≤ (rd_T41 l q).f0 := by
  have key : ∀ (d : Nat) (j : Int), j = p + d → j < (l.length : Int) → (rd_T41 l p).f0 ≤ (rd_T41 l j).f0 := by
    intro d
    induction d with
    | zero => intro j e _; rw [show j = p by omega]; exact Int.le_refl _
    | succ d ih =>
      intro j e hj
      have h1 := ih (j - 1) (by omega) (by omega)
      have h2 := (hg.1 j (by omega) hj).2.2 (by omega)
      omega
  exact key (q - p).toNat q (by omega) hq
theorem te_lt (l : List S41) (hg : TeGood l) (p q : Int) (p0 : 0 ≤ p) (h : p < q) (hq : q < (l.length : Int)) : (rd_T41 l p).f0 < (rd_T41 l q).f0 := by
  have h1 := te_mono l hg p (q - 1) p0 (by omega) (by omega)
  have h2 := (hg.1 q (by omega) hq).2.2 (by omega)
  omega

def TeAt (l : List S41) (s r : Int) : Prop := 0 ≤ r ∧ r < (l.length : Int) ∧ (rd_T41 l r).f0 ≤ s ∧ (r + 1 < (l.length : Int) → s < (rd_T41 l (r + 1)).f0)
theorem TeAt.det {l : List S41} (hg : TeGood l) {s r r' : Int} (h : TeAt l s r) (h' : TeAt l s r') : r = r' := by
  obtain ⟨a, b, c, d⟩ := h
  obtain ⟨a', b', c', d'⟩ := h'
  rcases Int.lt_trichotomy r r' with g | g | g
  · have := te_mono l hg (r + 1) r' (by omega) (by omega) b'
    have := d (by omega)
    omega
  · exact g
  · have := te_mono l hg (r' + 1) r (by omega) (by omega) b
    have := d' (by omega)
    omega
theorem teAt_tot (l : List S41) (hg : TeGood l) (s : Int) (hs : 0 ≤ s) : Tot (fun k => spec_teAt.f k l s) (fun r => TeAt l s r) := by
  have hn := hg.2
  have hz := (hg.1 0 (by omega) (by omega)).2.1 rfl
  unfold spec_teAt.f
  refine trec (σ := Int) (fun i k => spec_teAt.l0 k l s i) (fun i => ((l.length : Int) - i).toNat) (fun i => 0 ≤ i ∧ i < (l.length : Int) ∧ (rd_T41 l i).f0 ≤ s) (fun _ r => TeAt l s r) ?_ 0 ⟨Int.le_refl _, by omega, by omega⟩
  rintro i ⟨h0, h1, h2⟩ ih
  simp only [spec_teAt.l0, wrap64_id (x := i + 1) (by omega) (by omega)]
  refine tite (fun c => ?_) (fun c => tsome ⟨h0, h1, h2, fun h => absurd h c⟩)
  refine tpos (by omega) ?_
  refine tite (fun c2 => ?_) (fun c2 => tsome ⟨h0, h1, h2, fun h => by omega⟩)
  exact ih (i + 1) ⟨by omega, by omega, c2⟩ (by (try dsimp only); omega)

theorem implTempoAt_tot (l : List S41) (hg : TeGood l) (s r : Int) (hr : TeAt l s r) : Tot (fun k => impl_tempoAt.f k l s) (fun y => y = (rd_T41 l r).f1) := by
  have hn := hg.2
  obtain ⟨r0, r1, r2, r3⟩ := hr
  unfold impl_tempoAt.f
  refine trec (σ := Int × Int) (fun p k => impl_tempoAt.l0 k s p.1 l (l.length : Int) p.2) (fun p => ((l.length : Int) - p.2).toNat) (fun p => 0 ≤ p.2 ∧ p.2 ≤ (l.length : Int) ∧ (r < p.2 → p.1 = (rd_T41 l r).f1)) (fun _ y => y = (rd_T41 l r).f1) ?_ (0, 0) ⟨Int.le_refl _, by dsimp only; omega, fun h => by dsimp only at h; omega⟩
  rintro ⟨acc, i⟩ ⟨h0, h1, h2⟩ ih
  dsimp only at h0 h1 h2
  simp only [impl_tempoAt.l0]
  refine tite (fun c => ?_) (fun c => tsome (h2 (by omega)))
  refine tpos h0 (tpos c ?_)
  rw [wrap64_id (by omega) (by omega)]
  refine tite (fun c2 => ih ((rd_T41 l i).f1, i + 1) ⟨by dsimp only; omega, by dsimp only; omega, fun h => ?_⟩ (by dsimp only; omega)) (fun c2 => ih (acc, i + 1) ⟨by dsimp only; omega, by dsimp only; omega, fun h => ?_⟩ (by dsimp only; omega))
  · dsimp only at h ⊢
    have : ¬ r < i := fun g => by
      have := te_mono l hg (r + 1) i (by omega) (by omega) c
      have := r3 (by omega)
      omega
    rw [show i = r by omega]
  · dsimp only at h ⊢
    by_cases e : i = r
    · subst e; exact absurd r2 c2
    · exact h2 (by omega)

theorem teStep_eq (a : Int) : spec_teStep.f a = some (decide (0 ≤ a ∧ a ≤ 2000)) := by
  unfold spec_teStep.f
  simp only [l1In_eq, Option.bind_some]
theorem isTempoStep_eq (a : Int) : impl_isTempoStep.f a = some (decide (0 ≤ a ∧ a ≤ 2000)) := by
  unfold impl_isTempoStep.f
  by_cases h : 0 ≤ a <;> simp [h]

theorem tempoAt_agree (l : List S41) (s : Int) (hl : l.length ≤ 1048576) : ∃ r, Tot (fun k => spec_TempoAt.f k l s) (fun y => y = r) ∧ Tot (fun k => impl_TempoAt.f k l s) (fun y => y = r) := by
  by_cases hg : TeGood l ∧ 0 ≤ s ∧ s ≤ 2000
  · obtain ⟨hg, hs⟩ := hg
    obtain ⟨r0, hr0, hi0⟩ := teAt_tot l hg s hs.1
    have h1 : Tot (fun k => spec_teAt.f k l s) (fun y => y = r0) := ⟨r0, hr0, rfl⟩
    refine ⟨((rd_T41 l r0).f1, true), ?_, ?_⟩
    · unfold spec_TempoAt.f
      refine tbind (teGood_tot l hl) (fun b hb => tpos (hb.2 hg) ?_)
      simp only [teStep_eq, Option.bind_some, decide_eq_true_eq]
      refine tpos hs ?_
      refine tbind h1 (fun _ e => ?_); subst e
      exact tpos hi0.1 (tpos hi0.2.1 (tsome rfl))
    · unfold impl_TempoAt.f
      refine tbind (areTempos_tot l hl) (fun b hb => tpos (hb.2 hg) ?_)
      simp only [isTempoStep_eq, Option.bind_some, decide_eq_true_eq]
      refine tpos hs ?_
      refine tbind (implTempoAt_tot l hg s r0 hi0) (fun _ e => ?_); subst e
      exact tsome rfl
  · refine ⟨(0, false), ?_, ?_⟩
    · unfold spec_TempoAt.f
      refine tbind (teGood_tot l hl) (fun b hb => tite (fun c => ?_) (fun c => tsome rfl))
      simp only [teStep_eq, Option.bind_some, decide_eq_true_eq]
      exact tneg (fun h => hg ⟨hb.1 c, h⟩) (tsome rfl)
    · unfold impl_TempoAt.f
      refine tbind (areTempos_tot l hl) (fun b hb => tite (fun c => ?_) (fun c => tsome rfl))
      simp only [isTempoStep_eq, Option.bind_some, decide_eq_true_eq]
      exact tneg (fun h => hg ⟨hb.1 c, h⟩) (tsome rfl)

theorem l1Least_eq (a b : Int) : spec_l1Least.f a b = some (mn a b) := by
  unfold spec_l1Least.f mn
  by_cases h : a < b
  · rw [if_pos h, if_neg (by omega)]
  · rw [if_neg h]
    by_cases h2 : b < a
    · rw [if_pos h2]
    · rw [if_neg h2]
      congr 1; omega
theorem timeSame (k : Nat) : ∀ (l : List S41) (s t : Int) (l2 : List S41) (n i : Int), impl_timeOf.l0 k l s t l2 n i = spec_teTime.l0 k l s t l2 n i := by
  induction k with
  | zero => intros; rfl
  | succ k ih =>
    intro l s t l2 n i
    simp only [impl_timeOf.l0, spec_teTime.l0, ih, l1Least_eq, Option.bind_some]
theorem timeSameF (k : Nat) (l : List S41) (s : Int) : impl_timeOf.f k l s = spec_teTime.f k l s := by
  unfold impl_timeOf.f spec_teTime.f
  exact timeSame k l s 0 l _ 0

def seg (l : List S41) (s i : Int) : Int :=
  if i + 1 < (l.length : Int) then (if mn s (rd_T41 l (i + 1)).f0 > (rd_T41 l i).f0 then (mn s (rd_T41 l (i + 1)).f0 - (rd_T41 l i).f0) * (rd_T41 l i).f1 else 0)
  else (if s > (rd_T41 l i).f0 then (s - (rd_T41 l i).f0) * (rd_T41 l i).f1 else 0)
def tmUpto (l : List S41) (s : Int) : Nat → Int
  | 0 => 0
  | i + 1 => tmUpto l s i + seg l s i
def tm (l : List S41) (s : Int) : Int := tmUpto l s l.length
theorem mul_bounds {a b : Int} (a0 : 0 ≤ a) (a1 : a ≤ 2000) (b0 : 1000 ≤ b) (b1 : b ≤ 1000000) : 0 ≤ a * b ∧ a * b ≤ 2000000000 := by
  have h1 : a * b ≤ 2000 * b := Int.mul_le_mul_of_nonneg_right a1 (by omega)
  have h2 : 0 ≤ a * b := Int.mul_nonneg a0 (by omega)
  omega
theorem seg_bounds (l : List S41) (hg : TeGood l) (s i : Int) (s1 : s ≤ 2000) (i0 : 0 ≤ i) (i1 : i < (l.length : Int)) : 0 ≤ seg l s i ∧ seg l s i ≤ 2000000000 := by
  have h := (hg.1 i i0 i1).1
  unfold OkChange at h
  unfold seg
  split
  · rename_i c
    have h2 := (hg.1 (i + 1) (by omega) c).1
    unfold OkChange at h2
    split
    · rename_i c2
      have hmn : mn s (rd_T41 l (i + 1)).f0 ≤ 2000 := by unfold mn; split <;> omega
      exact mul_bounds (by omega) (by omega) h.2.2.1 h.2.2.2
    · omega
  · split
    · exact mul_bounds (by omega) (by omega) h.2.2.1 h.2.2.2
    · omega
theorem tmUpto_bounds (l : List S41) (hg : TeGood l) (s : Int) (s1 : s ≤ 2000) : ∀ i : Nat, i ≤ l.length → 0 ≤ tmUpto l s i ∧ tmUpto l s i ≤ 2000000000 * (i : Int) := by
  intro i
  induction i with
  | zero => intro _; simp [tmUpto]
  | succ i ih =>
    intro hi
    have h1 := ih (by omega)
    have h2 := seg_bounds l hg s i s1 (by omega) (by omega)
    unfold tmUpto
    omega
theorem tm_bounds (l : List S41) (hg : TeGood l) (s : Int) (s1 : s ≤ 2000) : 0 ≤ tm l s ∧ tm l s ≤ 40000000000 := by
  have h := tmUpto_bounds l hg s s1 l.length (Nat.le_refl _)
  have := hg.2
  unfold tm
  omega
theorem l1LeastMn_eq (a b : Int) : spec_l1Least.f a b = some (mn a b) := by
  unfold spec_l1Least.f mn
  by_cases h : a < b
  · rw [if_pos h, if_neg (by omega)]
  · rw [if_neg h]
    by_cases h2 : b < a
    · rw [if_pos h2]
    · rw [if_neg h2]
      congr 1; omega
theorem teTime_tot (l : List S41) (hg : TeGood l) (s : Int) (s0 : 0 ≤ s) (s1 : s ≤ 2000) : Tot (fun k => spec_teTime.f k l s) (fun r => r = tm l s) := by
  have hn := hg.2
  unfold spec_teTime.f
  refine trec (σ := Nat) (fun i k => spec_teTime.l0 k l s (tmUpto l s i) l (l.length : Int) (i : Int)) (fun i => l.length - i) (fun i => i ≤ l.length) (fun _ r => r = tm l s) ?_ 0 (Nat.zero_le _)
  intro i hi ih
  simp only [spec_teTime.l0, l1LeastMn_eq, Option.bind_some, wrap64_id (x := (i : Int) + 1) (by omega) (by omega)]
  refine tite (fun c => ?_) (fun c => tsome (by unfold tm; rw [show i = l.length by omega]))
  refine tpos (by omega) (tpos c ?_)
  have hb := tmUpto_bounds l hg s s1 i hi
  have hs := seg_bounds l hg s i s1 (by omega) c
  have h := (hg.1 i (by omega) c).1
  unfold OkChange at h
  have hstep : tmUpto l s (i + 1) = tmUpto l s i + seg l s i := rfl
  have go : ∀ x : Int, x = tmUpto l s (i + 1) → Tot (fun k => spec_teTime.l0 k l s x l (l.length : Int) ((i : Int) + 1)) (fun r => r = tm l s) := by
    intro x e
    rw [e]
    have := ih (i + 1) (by omega) (by omega)
    simpa using this
  refine tite (fun c2 => ?_) (fun c2 => ?_)
  · refine tpos (by omega) ?_
    have h2 := (hg.1 (i + 1) (by omega) c2).1
    unfold OkChange at h2
    refine tite (fun c3 => ?_) (fun c3 => ?_)
    · have e : seg l s i = (mn s (rd_T41 l ((i : Int) + 1)).f0 - (rd_T41 l i).f0) * (rd_T41 l i).f1 := by
        unfold seg; rw [if_pos c2, if_pos c3]
      have hmn : mn s (rd_T41 l ((i : Int) + 1)).f0 ≤ 2000 := by unfold mn; split <;> omega
      rw [wrap64_id (x := mn s (rd_T41 l ((i : Int) + 1)).f0 - (rd_T41 l i).f0) (by omega) (by omega), ← e, wrap64_id (x := seg l s i) (by omega) (by omega), wrap64_id (by omega) (by omega)]
      exact go _ hstep.symm
    · have e : seg l s i = 0 := by unfold seg; rw [if_pos c2, if_neg c3]
      exact go _ (by omega)
  · refine tite (fun c3 => ?_) (fun c3 => ?_)
    · have e : seg l s i = (s - (rd_T41 l i).f0) * (rd_T41 l i).f1 := by
        unfold seg; rw [if_neg c2, if_pos c3]
      rw [wrap64_id (x := s - (rd_T41 l i).f0) (by omega) (by omega), ← e, wrap64_id (x := seg l s i) (by omega) (by omega), wrap64_id (by omega) (by omega)]
      exact go _ hstep.symm
    · have e : seg l s i = 0 := by unfold seg; rw [if_neg c2, if_neg c3]
      exact go _ (by omega)
theorem mul_mono {a b c : Int} (h : a ≤ b) (hc : 1000 ≤ c) : a * c ≤ b * c := Int.mul_le_mul_of_nonneg_right h (by omega)
theorem seg_mono (l : List S41) (hg : TeGood l) (s s' i : Int) (h : s ≤ s') (i0 : 0 ≤ i) (i1 : i < (l.length : Int)) : seg l s i ≤ seg l s' i := by
  have hc := (hg.1 i i0 i1).1
  unfold OkChange at hc
  have hp : ∀ x y : Int, x ≤ y → (if x > (rd_T41 l i).f0 then (x - (rd_T41 l i).f0) * (rd_T41 l i).f1 else 0) ≤ (if y > (rd_T41 l i).f0 then (y - (rd_T41 l i).f0) * (rd_T41 l i).f1 else 0) := by
    intro x y hxy
    by_cases h1 : x > (rd_T41 l i).f0
    · rw [if_pos h1, if_pos (by omega)]
      exact mul_mono (by omega) hc.2.2.1
    · rw [if_neg h1]
      split
      · exact Int.mul_nonneg (by omega) (by omega)
      · exact Int.le_refl _
  unfold seg
  split
  · exact hp _ _ (by unfold mn; split <;> split <;> omega)
  · exact hp _ _ h
theorem tm_mono (l : List S41) (hg : TeGood l) (s s' : Int) (h : s ≤ s') : tm l s ≤ tm l s' := by
  have key : ∀ i : Nat, i ≤ l.length → tmUpto l s i ≤ tmUpto l s' i := by
    intro i
    induction i with
    | zero => intro _; exact Int.le_refl _
    | succ i ih =>
      intro hi
      have h1 := ih (by omega)
      have h2 := seg_mono l hg s s' i h (by omega) (by omega)
      unfold tmUpto
      omega
  exact key _ (Nat.le_refl _)
theorem tm_zero (l : List S41) (hg : TeGood l) : tm l 0 = 0 := by
  have key : ∀ i : Nat, i ≤ l.length → tmUpto l 0 i = 0 := by
    intro i
    induction i with
    | zero => intro _; rfl
    | succ i ih =>
      intro hi
      have hc := (hg.1 i (by omega) (by omega)).1
      unfold OkChange at hc
      have h2 : seg l 0 i = 0 := by
        unfold seg
        split
        · rw [if_neg]
          unfold mn; split <;> omega
        · rw [if_neg (by omega)]
      unfold tmUpto
      rw [ih (by omega), h2]; rfl
  exact key _ (Nat.le_refl _)

theorem timeOf_tot (l : List S41) (hg : TeGood l) (s : Int) (s0 : 0 ≤ s) (s1 : s ≤ 2000) : Tot (fun k => impl_timeOf.f k l s) (fun r => r = tm l s) := by
  simp only [timeSameF]
  exact teTime_tot l hg s s0 s1

theorem timeOf_agree (l : List S41) (s : Int) (hl : l.length ≤ 1048576) : ∃ r, Tot (fun k => spec_TimeOf.f k l s) (fun y => y = r) ∧ Tot (fun k => impl_TimeOf.f k l s) (fun y => y = r) := by
  by_cases hg : TeGood l ∧ 0 ≤ s ∧ s ≤ 2000
  · obtain ⟨hg, hs⟩ := hg
    refine ⟨(tm l s, true), ?_, ?_⟩
    · unfold spec_TimeOf.f
      refine tbind (teGood_tot l hl) (fun b hb => tpos (hb.2 hg) ?_)
      simp only [teStep_eq, Option.bind_some, decide_eq_true_eq]
      refine tpos hs ?_
      refine tbind (teTime_tot l hg s hs.1 hs.2) (fun _ e => ?_); subst e
      exact tsome rfl
    · unfold impl_TimeOf.f
      refine tbind (areTempos_tot l hl) (fun b hb => tpos (hb.2 hg) ?_)
      simp only [isTempoStep_eq, Option.bind_some, decide_eq_true_eq]
      refine tpos hs ?_
      refine tbind (timeOf_tot l hg s hs.1 hs.2) (fun _ e => ?_); subst e
      exact tsome rfl
  · refine ⟨(0, false), ?_, ?_⟩
    · unfold spec_TimeOf.f
      refine tbind (teGood_tot l hl) (fun b hb => tite (fun c => ?_) (fun c => tsome rfl))
      simp only [teStep_eq, Option.bind_some, decide_eq_true_eq]
      exact tneg (fun h => hg ⟨hb.1 c, h⟩) (tsome rfl)
    · unfold impl_TimeOf.f
      refine tbind (areTempos_tot l hl) (fun b hb => tite (fun c => ?_) (fun c => tsome rfl))
      simp only [isTempoStep_eq, Option.bind_some, decide_eq_true_eq]
      exact tneg (fun h => hg ⟨hb.1 c, h⟩) (tsome rfl)

def TeTwo (l : List S41) (a b : Int) : Prop := TeGood l ∧ (0 ≤ a ∧ a ≤ 2000) ∧ (0 ≤ b ∧ b ≤ 2000) ∧ a ≤ b
theorem teTwo_tot (l : List S41) (a b : Int) (hl : l.length ≤ 1048576) : Tot (fun k => spec_teTwo.f k l a b) (fun r => (r = true) ↔ TeTwo l a b) := by
  unfold spec_teTwo.f
  refine tbind (teGood_tot l hl) (fun x hx => ?_)
  simp only [teStep_eq, Option.bind_some, decide_eq_true_eq]
  refine tite (fun c1 => ?_) (fun c1 => tsome ⟨(fun h => by simp at h), (fun h => absurd (hx.2 h.1) c1)⟩)
  refine tite (fun c2 => ?_) (fun c2 => tsome ⟨(fun h => by simp at h), (fun h => absurd h.2.1 c2)⟩)
  refine tite (fun c3 => ?_) (fun c3 => tsome ⟨(fun h => by simp at h), (fun h => absurd h.2.2.1 c3)⟩)
  exact tsome (by simp only [decide_eq_true_eq]; exact ⟨fun h => ⟨hx.1 c1, c2, c3, h⟩, fun h => h.2.2.2⟩)
theorem implBetween_tot (l : List S41) (a b : Int) (hl : l.length ≤ 1048576) : Tot (fun k => impl_TimeBetween.f k l a b) (fun r => (TeTwo l a b ∧ r = (tm l b - tm l a, true)) ∨ (¬ TeTwo l a b ∧ r = (0, false))) := by
  have iF : ¬ TeTwo l a b → Tot (fun k => impl_TimeBetween.j0 k l a b true) (fun r => (TeTwo l a b ∧ r = (tm l b - tm l a, true)) ∨ (¬ TeTwo l a b ∧ r = (0, false))) := by
    intro h
    refine tstep ?_
    simp only [impl_TimeBetween.j0, if_true]
    exact tsome (.inr ⟨h, rfl⟩)
  unfold impl_TimeBetween.f
  refine tbind (areTempos_tot l hl) (fun x hx => ?_)
  simp only [isTempoStep_eq, Option.bind_some, decide_eq_true_eq]
  refine tite (fun c1 => ?_) (fun c1 => iF (fun h => c1 (hx.2 h.1)))
  refine tite (fun c2 => ?_) (fun c2 => iF (fun h => c2 h.2.1))
  refine tite (fun c3 => ?_) (fun c3 => iF (fun h => c3 h.2.2.1))
  by_cases c4 : a > b
  · rw [decide_eq_true c4]
    exact iF (fun h => by have := h.2.2.2; omega)
  · rw [decide_eq_false c4]
    have hg := hx.1 c1
    refine tstep ?_
    simp only [impl_TimeBetween.j0]
    refine tneg (by simp) ?_
    refine tbind (timeOf_tot l hg b c3.1 c3.2) (fun _ e => ?_); subst e
    refine tbind (timeOf_tot l hg a c2.1 c2.2) (fun _ e => ?_); subst e
    have h1 := tm_bounds l hg a c2.2
    have h2 := tm_bounds l hg b c3.2
    exact tsome (.inl ⟨⟨hg, c2, c3, by omega⟩, by rw [wrap64_id (by omega) (by omega)]⟩)

theorem evenTempo_agree (l : List S41) (a b : Int) (hl : l.length ≤ 1048576) : ∃ r, Tot (fun k => spec_EvenTempo.f k l a b) (fun y => y = r) ∧ Tot (fun k => impl_EvenTempo.f k l a b) (fun y => y = r) := by
  have sF : Tot (fun k => spec_EvenTempo.j0 k l a b true) (fun y => y = (0, false)) := by
    refine tstep ?_
    simp only [spec_EvenTempo.j0, if_true]
    exact tsome rfl
  by_cases h : TeTwo l a b
  · by_cases e : a = b
    · refine ⟨(0, false), ?_, ?_⟩
      · unfold spec_EvenTempo.f
        refine tbind (teTwo_tot l a b hl) (fun x hx => tpos (hx.2 h) ?_)
        rw [show (a == b) = true by simp [e]]
        exact sF
      · unfold impl_EvenTempo.f
        refine tbind (implBetween_tot l a b hl) (fun y hy => ?_)
        obtain rfl := hy.elim (fun z => z.2) (fun z => absurd h z.1)
        exact tpos rfl (tpos e (tsome rfl))
    · refine ⟨(wrap64 (Int.tdiv (tm l b - tm l a) (b - a)), true), ?_, ?_⟩
      · unfold spec_EvenTempo.f
        refine tbind (teTwo_tot l a b hl) (fun x hx => tpos (hx.2 h) ?_)
        rw [show (a == b) = false by simp [e]]
        refine tstep ?_
        simp only [spec_EvenTempo.j0]
        refine tneg (by simp) ?_
        refine tbind (teTime_tot l h.1 b h.2.2.1.1 h.2.2.1.2) (fun _ e => ?_); subst e
        refine tbind (teTime_tot l h.1 a h.2.1.1 h.2.1.2) (fun _ e => ?_); subst e
        have h1 := tm_bounds l h.1 a h.2.1.2
        have h2 := tm_bounds l h.1 b h.2.2.1.2
        have h3 := h.2
        rw [wrap64_id (x := b - a) (by omega) (by omega), wrap64_id (x := tm l b - tm l a) (by omega) (by omega)]
        exact tneg (by omega) (tsome rfl)
      · unfold impl_EvenTempo.f
        refine tbind (implBetween_tot l a b hl) (fun y hy => ?_)
        obtain rfl := hy.elim (fun z => z.2) (fun z => absurd h z.1)
        have h3 := h.2
        refine tpos rfl (tneg e ?_)
        rw [wrap64_id (x := b - a) (by omega) (by omega)]
        exact tneg (by omega) (tsome rfl)
  · refine ⟨(0, false), ?_, ?_⟩
    · unfold spec_EvenTempo.f
      exact tbind (teTwo_tot l a b hl) (fun x hx => tneg (fun g => h (hx.1 g)) sF)
    · unfold impl_EvenTempo.f
      refine tbind (implBetween_tot l a b hl) (fun y hy => ?_)
      obtain rfl := hy.elim (fun z => absurd z.1 h) (fun z => z.2)
      exact tneg (by simp) (tsome rfl)

theorem paperSpeed_agree (l : List S41) (s w : Int) (hl : l.length ≤ 1048576) : ∃ r, Tot (fun k => spec_PaperSpeed.f k l s w) (fun y => y = r) ∧ Tot (fun k => impl_PaperSpeed.f k l s w) (fun y => y = r) := by
  have sF : Tot (fun k => spec_PaperSpeed.j0 k l s w true) (fun y => y = (0, 0, false)) := by
    refine tstep ?_
    simp only [spec_PaperSpeed.j0, if_true]
    exact tsome rfl
  have iF : Tot (fun k => impl_PaperSpeed.j0 k l s w true) (fun y => y = (0, 0, false)) := by
    refine tstep ?_
    simp only [impl_PaperSpeed.j0, if_true]
    exact tsome rfl
  by_cases hg : TeGood l ∧ (0 ≤ s ∧ s ≤ 2000) ∧ 1 ≤ w ∧ w ≤ 100
  · obtain ⟨hg, hs, hw⟩ := hg
    obtain ⟨r0, hr0, hi0⟩ := teAt_tot l hg s hs.1
    have h1 : Tot (fun k => spec_teAt.f k l s) (fun y => y = r0) := ⟨r0, hr0, rfl⟩
    have hc := (hg.1 r0 hi0.1 hi0.2.1).1
    unfold OkChange at hc
    obtain ⟨q, hq⟩ : ∃ q, q = ((1000000 * w) / (Nat.gcd (1000000 * w).toNat (rd_T41 l r0).f1.toNat : Int), (rd_T41 l r0).f1 / (Nat.gcd (1000000 * w).toNat (rd_T41 l r0).f1.toNat : Int)) := ⟨_, rfl⟩
    refine ⟨(q.1, q.2, true), ?_, ?_⟩
    · unfold spec_PaperSpeed.f
      refine tbind (teGood_tot l hl) (fun b hb => tpos (hb.2 hg) ?_)
      simp only [teStep_eq, l1In_eq, Option.bind_some, decide_eq_true_eq]
      refine tpos hs ?_
      rw [decide_eq_true hw, Bool.not_true]
      refine tstep ?_
      simp only [spec_PaperSpeed.j0]
      refine tneg (by simp) ?_
      refine tbind h1 (fun _ e => ?_); subst e
      refine tpos hi0.1 (tpos hi0.2.1 ?_)
      rw [wrap64_id (x := 1000000 * w) (by omega) (by omega)]
      refine tbind (tePart_tot (1000000 * w) _ (by omega) (by omega) (by omega) (by omega)) (fun _ e => ?_); rw [← hq] at e; subst e
      exact tsome rfl
    · unfold impl_PaperSpeed.f
      refine tbind (areTempos_tot l hl) (fun b hb => tpos (hb.2 hg) ?_)
      simp only [isTempoStep_eq, Option.bind_some, decide_eq_true_eq]
      refine tpos hs (tneg (by omega) ?_)
      rw [decide_eq_false (show ¬ w > 100 by omega)]
      refine tstep ?_
      simp only [impl_PaperSpeed.j0]
      refine tneg (by simp) ?_
      refine tbind (implTempoAt_tot l hg s r0 hi0) (fun _ e => ?_); subst e
      rw [wrap64_id (x := w * 1000000) (by omega) (by omega), Int.mul_comm w 1000000]
      refine tbind (lowest_tot (1000000 * w) _ (by omega) (by omega) (by omega) (by omega)) (fun _ e => ?_); rw [← hq] at e; subst e
      exact tsome rfl
  · refine ⟨(0, 0, false), ?_, ?_⟩
    · unfold spec_PaperSpeed.f
      refine tbind (teGood_tot l hl) (fun b hb => tite (fun c => ?_) (fun c => sF))
      simp only [teStep_eq, l1In_eq, Option.bind_some, decide_eq_true_eq]
      refine tite (fun c2 => ?_) (fun c2 => sF)
      rw [decide_eq_false (fun h => hg ⟨hb.1 c, c2, h⟩), Bool.not_false]
      exact sF
    · unfold impl_PaperSpeed.f
      refine tbind (areTempos_tot l hl) (fun b hb => tite (fun c => ?_) (fun c => iF))
      simp only [isTempoStep_eq, Option.bind_some, decide_eq_true_eq]
      refine tite (fun c2 => tite (fun c3 => iF) (fun c3 => ?_)) (fun c2 => iF)
      rw [decide_eq_true (show w > 100 from Classical.byContradiction fun h => hg ⟨hb.1 c, c2, by omega⟩)]
      exact iF

theorem simpleSame (k : Nat) : ∀ (l o l2 : List S41) (n i : Int), impl_SimpleTempos.l0 k l o l2 n i = spec_SimpleTempos.l0 k l o l2 n i := by
  induction k with
  | zero => intros; rfl
  | succ k ih =>
    intro l o l2 n i
    simp only [impl_SimpleTempos.l0, spec_SimpleTempos.l0, ih]
theorem specSimple_tot (l : List S41) (hl : l.length ≤ 1048576) : Tot (fun k => spec_SimpleTempos.l0 k l [] l (l.length : Int) 0) (fun r => r.1.length ≤ l.length) := by
  refine trec (σ := List S41 × Int) (fun s k => spec_SimpleTempos.l0 k l s.1 l (l.length : Int) s.2) (fun s => ((l.length : Int) - s.2).toNat) (fun s => 0 ≤ s.2 ∧ s.2 ≤ (l.length : Int) ∧ (s.1.length : Int) ≤ s.2) (fun _ r => r.1.length ≤ l.length) ?_ ([], 0) ⟨Int.le_refl _, by dsimp only; omega, by simp⟩
  rintro ⟨o, i⟩ ⟨h0, h1, h2⟩ ih
  dsimp only at h0 h1 h2
  simp only [spec_SimpleTempos.l0, wrap64_id (x := i + 1) (by omega) (by omega), wrap64_id (x := i - 1) (by omega) (by omega)]
  have go1 : ∀ x : S41, i < (l.length : Int) → Tot (fun k => spec_SimpleTempos.l0 k l (o ++ [x]) l (l.length : Int) (i + 1)) (fun r => r.1.length ≤ l.length) := fun x c =>
    ih (o ++ [x], i + 1) ⟨by dsimp only; omega, by dsimp only; omega, by simp; omega⟩ (by dsimp only; omega)
  have go2 : i < (l.length : Int) → Tot (fun k => spec_SimpleTempos.l0 k l o l (l.length : Int) (i + 1)) (fun r => r.1.length ≤ l.length) := fun c =>
    ih (o, i + 1) ⟨by dsimp only; omega, by dsimp only; omega, by dsimp only; omega⟩ (by dsimp only; omega)
  repeat' (refine tite (fun _ => ?_) (fun _ => ?_))
  all_goals first
    | (exfalso; omega)
    | exact go1 _ (by omega)
    | exact go2 (by omega)
    | exact tsome (by dsimp only; omega)
theorem simpleTempos_agree (l : List S41) (hl : l.length ≤ 1048576) : ∃ r, Tot (fun k => spec_SimpleTempos.f k l) (fun y => y = r) ∧ Tot (fun k => impl_SimpleTempos.f k l) (fun y => y = r) ∧ r.1.length ≤ 1048576 := by
  by_cases hg : TeGood l
  · obtain ⟨r, hr, hb⟩ := specSimple_tot l hl
    refine ⟨r, ?_, ?_, by omega⟩
    · unfold spec_SimpleTempos.f
      exact tbind (teGood_tot l hl) (fun b hb => tpos (hb.2 hg) ⟨r, hr, rfl⟩)
    · unfold impl_SimpleTempos.f
      refine tbind (areTempos_tot l hl) (fun b hb => tpos (hb.2 hg) ?_)
      simp only [simpleSame]
      exact ⟨r, hr, rfl⟩
  · refine ⟨([], false), ?_, ?_, by simp⟩
    · unfold spec_SimpleTempos.f
      exact tbind (teGood_tot l hl) (fun b hb => tneg (fun h => hg (hb.1 h)) (tsome rfl))
    · unfold impl_SimpleTempos.f
      exact tbind (areTempos_tot l hl) (fun b hb => tneg (fun h => hg (hb.1 h)) (tsome rfl))

def inpl {α : Type} (f : α → α) (l : List α) (i : Nat) : List α := (l.take i).map f ++ l.drop i
theorem inpl_len {α : Type} (f : α → α) (l : List α) (i : Nat) (h : i ≤ l.length) : (inpl f l i).length = l.length := by
  unfold inpl; simp; omega
theorem inpl_zero {α : Type} (f : α → α) (l : List α) : inpl f l 0 = l := by simp [inpl]
theorem inpl_end {α : Type} (f : α → α) (l : List α) : inpl f l l.length = l.map f := by simp [inpl]
theorem inpl_at {α : Type} (z : α) (f : α → α) (l : List α) (i : Nat) (h : i < l.length) : (inpl f l i).getD i z = l.getD i z := by
  unfold inpl
  have h1 : ((l.take i).map f).length = i := by simp; omega
  rw [List.getD, List.getElem?_append_right (by omega), h1, Nat.sub_self]
  simp [List.getD, h]
theorem inpl_set {α : Type} (z : α) (f : α → α) (l : List α) (i : Nat) (h : i < l.length) : (inpl f l i).set i (f (l.getD i z)) = inpl f l (i + 1) := by
  unfold inpl
  have h1 : ((l.take i).map f).length = i := by simp; omega
  rw [List.set_append_right _ _ (by omega), h1, Nat.sub_self, List.drop_eq_getElem_cons h, List.set_cons_zero, List.take_succ_eq_append_getElem h, List.map_append, List.append_assoc]
  simp [List.getD, h]
theorem take_up {α β : Type} (z : α) (f : α → β) (l : List α) (i : Nat) (h : i < l.length) : (l.take (i + 1)).map f = (l.take i).map f ++ [f (l.getD i z)] := by
  rw [List.take_succ_eq_append_getElem h, List.map_append]
  simp [List.getD, h]

theorem cloneChange (l : List S41) (hl : l.length ≤ 1048576) : clone_Change.f l = some l := by
  unfold clone_Change.f
  simp only [Option.bind_some]
  rw [if_pos (by simp; omega)]
  rfl

def scPost (l : List S41) (r : List S41 × Bool) : Prop := (TeGood l ∧ r = (l, true)) ∨ (¬ TeGood l ∧ r = ([], false))
theorem scPost.det {l : List S41} {r r' : List S41 × Bool} (h : scPost l r) (h' : scPost l r') : r = r' := by
  rcases h with ⟨x, e⟩ | ⟨x, e⟩ <;> rcases h' with ⟨x', e'⟩ | ⟨x', e'⟩
  · rw [e, e']
  · exact absurd x x'
  · exact absurd x' x
  · rw [e, e']
theorem teIf_tot (l : List S41) (hl : l.length ≤ 1048576) : Tot (fun k => spec_teIf.f k l) (fun r => scPost l r) := by
  unfold spec_teIf.f
  exact tbind (teGood_tot l hl) (fun b hb => tite (fun c => tsome (.inl ⟨hb.1 c, rfl⟩)) (fun c => tsome (.inr ⟨fun h => c (hb.2 h), rfl⟩)))

def scE (p : Int) (x : S41) : S41 := ⟨x.f0, (x.f1 * p + 50) / 100⟩
theorem sc_wrap {a p : Int} (a1 : 1000 ≤ a) (a2 : a ≤ 1000000) (p1 : 1 ≤ p) (p2 : p ≤ 400) : wrap64 (Int.tdiv (wrap64 ((wrap64 (a * p)) + 50)) 100) = (a * p + 50) / 100 := by
  have h1 : a * p ≤ 1000000 * p := Int.mul_le_mul_of_nonneg_right a2 (by omega)
  have h2 : 0 ≤ a * p := Int.mul_nonneg (by omega) (by omega)
  obtain ⟨q, hq⟩ : ∃ q, q = a * p := ⟨_, rfl⟩
  rw [← hq] at h1 h2 ⊢
  rw [wrap64_id (x := q) (by omega) (by omega), wrap64_id (x := q + 50) (by omega) (by omega), Int.tdiv_eq_ediv_of_nonneg (by omega), wrap64_id (by omega) (by omega)]
theorem specSc_tot (l : List S41) (hg : TeGood l) (p : Int) (p1 : 1 ≤ p) (p2 : p ≤ 400) : Tot (fun k => spec_ScaleTempos.l0 k p [] l (l.length : Int) 0) (fun r => scPost (l.map (scE p)) r) := by
  have hn := hg.2
  refine trec (σ := Nat) (fun i k => spec_ScaleTempos.l0 k p ((l.take i).map (scE p)) l (l.length : Int) (i : Int)) (fun i => l.length - i) (fun i => i ≤ l.length) (fun _ r => scPost (l.map (scE p)) r) ?_ 0 (Nat.zero_le _)
  intro i hi ih
  simp only [spec_ScaleTempos.l0, wrap64_id (x := (i : Int) + 1) (by omega) (by omega)]
  refine tite (fun c => ?_) (fun c => ?_)
  · have hc := (hg.1 i (by omega) c).1
    unfold OkChange at hc
    refine tpos (by omega) (tpos c (tpos (by simp; omega) ?_))
    rw [sc_wrap hc.2.2.1 hc.2.2.2 p1 p2]
    have h := ih (i + 1) (by omega) (by omega)
    rw [take_up z41 (scE p) l i (by omega)] at h
    simpa [scE, rd_T41] using h
  · obtain rfl : i = l.length := by omega
    rw [List.take_length]
    exact tbind (teIf_tot _ (by simp; omega)) (fun r hr => tsome hr)
theorem implSc_tot (l : List S41) (hg : TeGood l) (p : Int) (p1 : 1 ≤ p) (p2 : p ≤ 400) : Tot (fun k => impl_ScaleTempos.l0 k p l (l.length : Int) 0) (fun r => scPost (l.map (scE p)) r) := by
  have hn := hg.2
  have key := trec (σ := Nat) (fun i k => impl_ScaleTempos.l0 k p (inpl (scE p) l i) (l.length : Int) (i : Int)) (fun i => l.length - i) (fun i => i ≤ l.length) (fun _ r => scPost (l.map (scE p)) r) ?_ 0 (Nat.zero_le _)
  · rw [inpl_zero] at key
    exact key
  · intro i hi ih
    have hlen := inpl_len (scE p) l i hi
    simp only [impl_ScaleTempos.l0, wrap64_id (x := (i : Int) + 1) (by omega) (by omega)]
    refine tite (fun c => ?_) (fun c => ?_)
    · have hc := (hg.1 i (by omega) c).1
      unfold OkChange at hc
      have e : rd_T41 (inpl (scE p) l i) (i : Int) = rd_T41 l (i : Int) := by
        unfold rd_T41
        exact inpl_at _ (scE p) l i (by omega)
      refine tpos (by omega) (tpos (by omega) ?_)
      rw [e, sc_wrap hc.2.2.1 hc.2.2.2 p1 p2]
      have h := ih (i + 1) (by omega) (by omega)
      rw [← inpl_set z41 (scE p) l i (by omega)] at h
      simpa [scE, rd_T41] using h
    · obtain rfl : i = l.length := by omega
      rw [inpl_end]
      exact tbind (areTempos_tot _ (by simp; omega)) (fun b hb => tite (fun c => tsome (.inl ⟨hb.1 c, rfl⟩)) (fun c => tsome (.inr ⟨fun h => c (hb.2 h), rfl⟩)))
theorem scaleTempos_agree (l : List S41) (p : Int) (hl : l.length ≤ 1048576) : ∃ r, Tot (fun k => spec_ScaleTempos.f k l p) (fun y => y = r) ∧ Tot (fun k => impl_ScaleTempos.f k l p) (fun y => y = r) ∧ r.1.length ≤ 1048576 := by
  have sF : Tot (fun k => spec_ScaleTempos.j0 k l p true) (fun y => y = ([], false)) := by
    refine tstep ?_
    simp only [spec_ScaleTempos.j0, if_true]
    exact tsome rfl
  have iF : Tot (fun k => impl_ScaleTempos.j0 k l p true) (fun y => y = ([], false)) := by
    refine tstep ?_
    simp only [impl_ScaleTempos.j0, if_true]
    exact tsome rfl
  by_cases hg : TeGood l ∧ 1 ≤ p ∧ p ≤ 400
  · obtain ⟨hg, hp⟩ := hg
    obtain ⟨r, hr, hR⟩ := specSc_tot l hg p hp.1 hp.2
    refine ⟨r, ?_, ?_, ?_⟩
    · unfold spec_ScaleTempos.f
      refine tbind (teGood_tot l hl) (fun b h => tpos (h.2 hg) ?_)
      simp only [l1In_eq, Option.bind_some]
      rw [decide_eq_true hp, Bool.not_true]
      refine tstep ?_
      simp only [spec_ScaleTempos.j0]
      exact tneg (by simp) ⟨r, hr, rfl⟩
    · unfold impl_ScaleTempos.f
      refine tbind (areTempos_tot l hl) (fun b h => tpos (h.2 hg) (tneg (by omega) ?_))
      rw [decide_eq_false (show ¬ p > 400 by omega)]
      refine tstep ?_
      simp only [impl_ScaleTempos.j0, cloneChange l hl, Option.bind_some]
      exact tneg (by simp) (tmono (implSc_tot l hg p hp.1 hp.2) (fun y hy => hy.det hR))
    · rcases hR with ⟨_, rfl⟩ | ⟨_, rfl⟩ <;> simp
      exact hl
  · refine ⟨([], false), ?_, ?_, by simp⟩
    · unfold spec_ScaleTempos.f
      refine tbind (teGood_tot l hl) (fun b h => tite (fun c => ?_) (fun c => sF))
      simp only [l1In_eq, Option.bind_some]
      rw [decide_eq_false (fun hh => hg ⟨h.1 c, hh⟩), Bool.not_false]
      exact sF
    · unfold impl_ScaleTempos.f
      refine tbind (areTempos_tot l hl) (fun b h => tite (fun c => tite (fun c2 => iF) (fun c2 => ?_)) (fun c => iF))
      rw [decide_eq_true (show p > 400 from Classical.byContradiction fun hh => hg ⟨h.1 c, by omega⟩)]
      exact iF

theorem tlet {α β : Type} {v : α} {g : Nat → α → Option β} {Q : β → Prop} (h : Tot (fun k => g k v) Q) : Tot (fun k => (some v).bind fun y => g k y) Q := h
theorem take_drop_erase {α : Type} (l : List α) (m : Nat) : l.take m ++ l.drop (m + 1) = l.eraseIdx m := (List.eraseIdx_eq_take_drop_succ l m).symm
theorem wrapN1 (m : Nat) (h : m ≤ 1048576) : wrap64 ((m : Int) + 1) = ((m + 1 : Nat) : Int) := by rw [wrap64_id (by omega) (by omega)]; rfl
theorem erase_len {α : Type} (l : List α) (m : Nat) (h : l.length ≤ 1048576) : (l.eraseIdx m).length ≤ 1048576 := Nat.le_trans (List.length_eraseIdx_le l m) h

theorem deleteChange (l : List S41) (m : Nat) (h : m < l.length) (hl : l.length ≤ 1048576) : delete_Change.f l (m : Int) ((m + 1 : Nat) : Int) = some (l.eraseIdx m) := by
  unfold delete_Change.f
  rw [if_pos (by omega), if_pos (by omega), if_pos (wrapN1 m (by omega)).symm, Int.toNat_natCast]

theorem DropTempo_agree (l : List S41) (p : Int) (hl : l.length ≤ 1048576) : ∃ r, Tot (fun k => spec_DropTempo.f k l p) (fun y => y = r) ∧ Tot (fun k => impl_DropTempo.f k l p) (fun y => y = r) ∧ r.1.length ≤ 1048576 := by
  have iF : Tot (fun k => impl_DropTempo.j0 k l p true) (fun y => y = ([], false)) := by
    refine tstep ?_
    simp only [impl_DropTempo.j0, if_true]
    exact tsome rfl
  by_cases hg : TeGood l ∧ 1 ≤ p ∧ p ≤ (l.length : Int) - 1
  · obtain ⟨hg, hp⟩ := hg
    obtain ⟨m, rfl⟩ := Int.eq_ofNat_of_zero_le (show 0 ≤ p by omega)
    refine ⟨(l.eraseIdx m, true), ?_, ?_, erase_len l m hl⟩
    · unfold spec_DropTempo.f
      refine tbind (teGood_tot l hl) (fun b h => tpos (h.2 hg) ?_)
      rw [l1In_eq, wrap64_id (x := (l.length : Int) - 1) (by omega) (by omega), decide_eq_true hp, wrapN1 m (by omega), Int.toNat_natCast, Int.toNat_natCast]
      refine tlet (tpos rfl ?_)
      refine tlet ?_
      refine tpos (by omega) (tpos (by omega) ?_)
      refine tlet ?_
      refine tpos (by rw [List.length_take, List.length_nil]; omega) ?_
      refine tlet ?_
      refine tpos (by omega) (tpos (by omega) ?_)
      refine tlet ?_
      refine tpos (by rw [List.length_append, List.length_take, List.length_drop, List.length_nil]; omega) (tsome ?_)
      rw [List.nil_append, take_drop_erase]
    · unfold impl_DropTempo.f
      refine tbind (areTempos_tot l hl) (fun b h => tpos (h.2 hg) (tneg (by omega) ?_))
      rw [decide_eq_false (show ¬ ((m : Int) ≥ (l.length : Int)) by omega)]
      refine tstep ?_
      simp only [impl_DropTempo.j0, cloneChange l hl, Option.bind_some, wrapN1 m (show m ≤ 1048576 by omega), deleteChange l m (show m < l.length by omega) hl]
      exact tneg (by simp) (tsome rfl)
  · refine ⟨([], false), ?_, ?_, by simp⟩
    · unfold spec_DropTempo.f
      refine tbind (teGood_tot l hl) (fun b h => tite (fun c => ?_) (fun c => tsome rfl))
      rw [l1In_eq, wrap64_id (x := (l.length : Int) - 1) (by omega) (by omega), decide_eq_false (fun hh => hg ⟨h.1 c, hh⟩)]
      exact tlet (tneg (by simp) (tsome rfl))
    · unfold impl_DropTempo.f
      refine tbind (areTempos_tot l hl) (fun b h => tite (fun c => tite (fun c2 => iF) (fun c2 => ?_)) (fun c => iF))
      rw [decide_eq_true (show p ≥ (l.length : Int) from Classical.byContradiction fun hh => hg ⟨h.1 c, by omega⟩)]
      exact iF

theorem split_ex (l : List S41) (s : Int) : ∀ n : Nat, n ≤ l.length → ∃ a : Nat, a ≤ n ∧ (∀ j : Nat, j < a → (rd_T41 l j).f0 < s) ∧ (a < n → ¬ (rd_T41 l a).f0 < s)
  | 0, _ => ⟨0, Nat.le_refl _, fun j hj => by omega, fun h => by omega⟩
  | n + 1, h => by
    obtain ⟨a, h1, h2, h3⟩ := split_ex l s n (by omega)
    by_cases e : a = n ∧ (rd_T41 l n).f0 < s
    · obtain ⟨rfl, e⟩ := e
      refine ⟨a + 1, Nat.le_refl _, fun j hj => ?_, fun h => by omega⟩
      by_cases q : j = a
      · rw [q]; exact e
      · exact h2 j (by omega)
    · refine ⟨a, by omega, h2, fun hlt => ?_⟩
      by_cases q : a < n
      · exact h3 q
      · obtain rfl : a = n := by omega
        exact fun hh => e ⟨rfl, hh⟩
def AddAt (l : List S41) (s : Int) (a b : Nat) : Prop := a ≤ l.length ∧ a ≤ b ∧ b ≤ a + 1 ∧ b ≤ l.length ∧ (∀ j : Nat, j < a → (rd_T41 l j).f0 < s) ∧ (∀ j : Nat, a ≤ j → j < b → (rd_T41 l j).f0 = s) ∧ (∀ j : Nat, b ≤ j → j < l.length → s < (rd_T41 l j).f0)
theorem addAt_ex (l : List S41) (hg : TeGood l) (s : Int) : ∃ a b : Nat, AddAt l s a b := by
  obtain ⟨a, h1, h2, h3⟩ := split_ex l s l.length (Nat.le_refl _)
  by_cases e : a < l.length ∧ (rd_T41 l a).f0 = s
  · refine ⟨a, a + 1, h1, by omega, Nat.le_refl _, by omega, h2, fun j hj hj2 => by rw [show j = a by omega]; exact e.2, fun j hj hj2 => ?_⟩
    have m := te_mono l hg a ((j : Int) - 1) (by omega) (by omega) (by omega)
    have c := (hg.1 j (by omega) (by omega)).2.2 (by omega)
    omega
  · refine ⟨a, a, h1, Nat.le_refl _, by omega, h1, h2, fun j hj hj2 => by omega, fun j hj hj2 => ?_⟩
    have m := te_mono l hg a j (by omega) (by omega) (by omega)
    have c := h3 (by omega)
    have e2 : ¬ (rd_T41 l a).f0 = s := fun h => e ⟨by omega, h⟩
    omega
def addRes (l : List S41) (x : S41) (a b : Nat) : List S41 := l.take a ++ [x] ++ l.drop b
theorem addRes_len (l : List S41) (x : S41) (a b : Nat) (ha : a ≤ l.length) : (addRes l x a b).length = a + 1 + (l.length - b) := by
  unfold addRes
  simp only [List.length_append, List.length_take, List.length_drop, List.length_singleton]
  omega
theorem rd_lt (l : List S41) (x : S41) (a b : Nat) (ha : a ≤ l.length) (j : Nat) (h : j < a) : rd_T41 (addRes l x a b) j = rd_T41 l j := by
  unfold addRes rd_T41
  rw [List.append_assoc]
  have h1 : j < (l.take a).length := by rw [List.length_take]; omega
  simp [List.getD, List.getElem?_append_left h1, List.getElem?_take, h]
theorem rd_at (l : List S41) (x : S41) (a b : Nat) (ha : a ≤ l.length) : rd_T41 (addRes l x a b) a = x := by
  unfold addRes rd_T41
  rw [List.append_assoc]
  have h1 : (l.take a).length = a := by rw [List.length_take]; omega
  simp [List.getD, List.getElem?_append_right (show (l.take a).length ≤ a by omega), h1]
theorem rd_gt (l : List S41) (x : S41) (a b : Nat) (ha : a ≤ l.length) (j : Nat) : rd_T41 (addRes l x a b) ((a + 1 + j : Nat) : Int) = rd_T41 l ((b + j : Nat) : Int) := by
  unfold addRes rd_T41
  have h1 : (l.take a ++ [x]).length = a + 1 := by rw [List.length_append, List.length_take, List.length_singleton]; omega
  simp only [Int.toNat_natCast, List.getD]
  rw [List.getElem?_append_right (by omega), h1, List.getElem?_drop, show b + (a + 1 + j - (a + 1)) = b + j by omega]
theorem addRes_good (l : List S41) (hg : TeGood l) (x : S41) (hx : OkChange x) (a b : Nat) (h : AddAt l x.f0 a b) : TeGood (addRes l x a b) ↔ a + 1 + (l.length - b) ≤ 20 := by
  obtain ⟨h1, h2, h3, h4, h5, h6, h7⟩ := h
  have hlen := addRes_len l x a b h1
  constructor
  · intro hh
    have := hh.2.2
    omega
  · intro hle
    refine ⟨fun j j0 j1 => ?_, by omega, by omega⟩
    obtain ⟨m, rfl⟩ := Int.eq_ofNat_of_zero_le j0
    unfold TeC
    by_cases c1 : m < a
    · have ho := hg.1 m (by omega) (by omega)
      rw [rd_lt l x a b h1 m c1]
      refine ⟨ho.1, ho.2.1, fun hp => ?_⟩
      rw [show (m : Int) - 1 = ((m - 1 : Nat) : Int) by omega, rd_lt l x a b h1 (m - 1) (by omega), show ((m - 1 : Nat) : Int) = (m : Int) - 1 by omega]
      exact ho.2.2 hp
    · by_cases c2 : m = a
      · subst c2
        rw [rd_at l x m b h1]
        refine ⟨hx, fun e => ?_, fun hp => ?_⟩
        · have em : m = 0 := by omega
          subst em
          have z := (hg.1 0 (by omega) (by have := hg.2; omega)).2.1 rfl
          have hx0 := hx.1
          by_cases eb : b = 0
          · have := h7 0 (by omega) (by have := hg.2; omega)
            have e0 : ((0 : Nat) : Int) = 0 := rfl
            rw [e0] at this
            omega
          · have := h6 0 (by omega) (by omega)
            have e0 : ((0 : Nat) : Int) = 0 := rfl
            rw [e0] at this
            omega
        · rw [show (m : Int) - 1 = ((m - 1 : Nat) : Int) by omega, rd_lt l x m b h1 (m - 1) (by omega)]
          exact h5 (m - 1) (by omega)
      · obtain ⟨q, rfl⟩ : ∃ q, m = a + 1 + q := ⟨m - a - 1, by omega⟩
        have ho := hg.1 ((b + q : Nat) : Int) (by omega) (by omega)
        rw [rd_gt l x a b h1 q]
        refine ⟨ho.1, fun e => by omega, fun _ => ?_⟩
        by_cases c3 : q = 0
        · subst c3
          rw [show ((a + 1 + 0 : Nat) : Int) - 1 = (a : Int) by omega, rd_at l x a b h1]
          exact h7 (b + 0) (by omega) (by omega)
        · rw [show ((a + 1 + q : Nat) : Int) - 1 = ((a + 1 + (q - 1) : Nat) : Int) by omega, rd_gt l x a b h1 (q - 1), show ((b + (q - 1) : Nat) : Int) = ((b + q : Nat) : Int) - 1 by omega]
          exact ho.2.2 (by omega)
theorem take_snoc {α : Type} (z : α) (l : List α) (i : Nat) (h : i < l.length) : l.take (i + 1) = l.take i ++ [l.getD i z] := by
  rw [List.take_succ_eq_append_getElem h]
  simp [List.getD, h]

theorem implAdd_tot (l : List S41) (hg : TeGood l) (s t : Int) (hx : OkChange ⟨s, t⟩) (a b : Nat) (h : AddAt l s a b) : Tot (fun k => impl_AddTempo.l0 k l 0 s t) (fun r => scPost (addRes l ⟨s, t⟩ a b) r) := by
  have hgood := addRes_good l hg ⟨s, t⟩ hx a b h
  obtain ⟨h1, h2, h3, h4, h5, h6, h7⟩ := h
  have hn := hg.2
  have j3T : a < l.length → (rd_T41 l a).f0 = s → Tot (fun k => impl_AddTempo.j3 k l (a : Int) true s t) (fun r => scPost (addRes l ⟨s, t⟩ a b) r) := by
    intro c e
    have hb : b = a + 1 := by
      refine Classical.byContradiction fun hne => ?_
      have := h7 a (by omega) c
      omega
    subst hb
    refine tstep ?_
    simp only [impl_AddTempo.j3, if_true]
    refine tpos (by omega) (tpos (by omega) (tsome (.inl ⟨hgood.2 (by omega), ?_⟩)))
    rw [Int.toNat_natCast, List.set_eq_take_append_cons_drop, if_pos c]
    simp [addRes]
  have j3F : ¬ (a < l.length ∧ (rd_T41 l a).f0 = s) → Tot (fun k => impl_AddTempo.j3 k l (a : Int) false s t) (fun r => scPost (addRes l ⟨s, t⟩ a b) r) := by
    intro c
    have hb : b = a := by
      refine Classical.byContradiction fun hne => c ⟨by omega, h6 a (Nat.le_refl _) (by omega)⟩
    subst hb
    refine tstep ?_
    simp only [impl_AddTempo.j3]
    refine tneg (by simp) (tite (fun c2 => tsome (.inr ⟨fun hh => by have := hgood.1 hh; omega, rfl⟩)) (fun c2 => ?_))
    have e : insert_Change.f l (b : Int) [(⟨s, t⟩ : S41)] = some (addRes l ⟨s, t⟩ b b) := by
      unfold insert_Change.f
      rw [if_pos (by omega), if_pos (by omega), if_pos (by simp), if_pos (by simp; omega), Int.toNat_natCast]
      rfl
    rw [e]
    simp only [Option.bind_some]
    exact tsome (.inl ⟨hgood.2 (by omega), rfl⟩)
  have j2 : Tot (fun k => impl_AddTempo.j2 k l (a : Int) s t) (fun r => scPost (addRes l ⟨s, t⟩ a b) r) := by
    refine tstep ?_
    simp only [impl_AddTempo.j2]
    refine tite (fun c => tpos (by omega) ?_) (fun c => j3F (fun h => c (by omega)))
    by_cases e : (rd_T41 l a).f0 = s
    · rw [show ((rd_T41 l a).f0 == s) = true from beq_iff_eq.2 e]
      exact j3T (by omega) e
    · rw [show ((rd_T41 l a).f0 == s) = false from beq_eq_false_iff_ne.2 e]
      exact j3F (fun h => e h.2)
  refine trec (σ := Nat) (fun i k => impl_AddTempo.l0 k l (i : Int) s t) (fun i => l.length - i) (fun i => i ≤ a) (fun _ r => scPost (addRes l ⟨s, t⟩ a b) r) ?_ 0 (Nat.zero_le _)
  intro i hi ih
  simp only [impl_AddTempo.l0, wrap64_id (x := (i : Int) + 1) (by omega) (by omega)]
  refine tite (fun c => ?_) (fun c => ?_)
  · refine tpos (by omega) (tite (fun c2 => ?_) (fun c2 => ?_))
    · have hb : i < a := by
        refine Nat.lt_of_not_le fun hle => ?_
        by_cases q : i < b
        · have := h6 i hle q; omega
        · have := h7 i (by omega) (by omega); omega
      have := ih (i + 1) (by omega) (by omega)
      simpa using this
    · have hb : i = a := by
        refine Classical.byContradiction fun hne => c2 (h5 i (by omega))
      subst hb
      exact j2
  · obtain rfl : i = a := by omega
    exact j2

theorem u64r (x : Int) : 0 ≤ IntKind.u64.wrap x ∧ IntKind.u64.wrap x < 18446744073709551616 := by
  have h : IntKind.u64.wrap x = x % 18446744073709551616 := by first | rfl | (unfold IntKind.wrap; rfl) | simp [IntKind.wrap]
  rw [h]; omega
theorem and255 (x : Int) (h0 : 0 ≤ x) (h1 : x < 18446744073709551616) : 0 ≤ bits .and .u64 x 255 ∧ bits .and .u64 x 255 ≤ 255 := by
  obtain ⟨n, rfl⟩ := Int.eq_ofNat_of_zero_le h0
  have h := bits_and_u64_nat n 255 (by omega) (by omega)
  have h2 : n &&& 255 ≤ 255 := Nat.and_le_right
  rw [show ((255 : Nat) : Int) = 255 from rfl] at h
  rw [h]; omega
def Bytes (l : List Int) : Prop := (∀ x ∈ l, 0 ≤ x ∧ x ≤ 255) ∧ l.length ≤ 1048576
def StA (b : Nat) (a : Int) : Prop := 0 ≤ a ∧ a ≤ (b : Int) ∧ b ≤ 1000000
theorem StA.up {b c : Nat} {a : Int} (h : StA b a) (hbc : b ≤ c) (hc : c ≤ 1000000) : StA c a := ⟨h.1, by have := h.2.1; omega, hc⟩
theorem rd_byte (l : List Int) (h : Bytes l) (i : Int) : 0 ≤ rd l i ∧ rd l i ≤ 255 := by
  unfold rd
  rw [List.getD_eq_getElem?_getD]
  by_cases c : i.toNat < l.length
  · rw [List.getElem?_eq_getElem c]; exact h.1 _ (List.getElem_mem c)
  · rw [List.getElem?_eq_none (by omega)]; exact ⟨Int.le_refl _, by decide⟩
theorem draw_next (l : List Int) (hl : Bytes l) (b : Nat) (a s : Int) (h : StA b a) (hb : b + 1 ≤ 1000000) : ∃ v a' s', spec_l1Cur_next.f l a s = some (v, a', s') ∧ (0 ≤ v ∧ v ≤ 255) ∧ StA (b + 1) a' := by
  have hw : wrap64 (a + 1) = a + 1 := wrap64_id (by have := h.1; omega) (by have := h.2.1; omega)
  have hS : StA (b + 1) (a + 1) := ⟨by have := h.1; omega, by have := h.2.1; omega, hb⟩
  have hr := rd_byte l hl a
  have hwr : wrap64 (rd l a) = rd l a := wrap64_id (by omega) (by omega)
  have hx : ∀ x : Int, 0 ≤ wrap64 (bits .and .u64 (IntKind.u64.wrap x / 1099511627776) 255) ∧ wrap64 (bits .and .u64 (IntKind.u64.wrap x / 1099511627776) 255) ≤ 255 := fun x => by
    have h1 := u64r x
    have h2 := and255 (IntKind.u64.wrap x / 1099511627776) (by omega) (by omega)
    rw [wrap64_id (by omega) (by omega)]; exact h2
  unfold spec_l1Cur_next.f
  rw [hw]
  by_cases c1 : a < (l.length : Int)
  · rw [if_pos c1, if_pos h.1]
    by_cases c2 : a + 1 ≤ (l.length : Int)
    · rw [if_pos c2]; exact ⟨_, _, _, rfl, by rw [hwr]; exact hr, hS⟩
    · rw [if_neg c2]; exact ⟨_, _, _, rfl, hx _, hS⟩
  · rw [if_neg c1]
    by_cases c2 : a + 1 ≤ (l.length : Int)
    · rw [if_pos c2]; exact ⟨_, _, _, rfl, ⟨Int.le_refl _, by decide⟩, hS⟩
    · rw [if_neg c2]; exact ⟨_, _, _, rfl, hx _, hS⟩
theorem draw_pick (l : List Int) (hl : Bytes l) (b : Nat) (a s n : Int) (h : StA b a) (hb : b + 2 ≤ 1000000) : ∃ v a' s', spec_l1Cur_pick.f l a s n = some (v, a', s') ∧ (0 ≤ v ∧ (v = 0 ∨ v < n)) ∧ StA (b + 2) a' := by
  unfold spec_l1Cur_pick.f
  by_cases c1 : n ≤ 1
  · rw [if_pos c1]; exact ⟨_, _, _, rfl, ⟨Int.le_refl _, Or.inl rfl⟩, h.up (by omega) hb⟩
  · rw [if_neg c1]
    obtain ⟨v, a', s', e, hv, h'⟩ := draw_next l hl b a s h (by omega)
    rw [e, Option.bind_some]
    by_cases c2 : n > 200
    · rw [if_pos c2]
      obtain ⟨v2, a2, s2, e2, hv2, h2⟩ := draw_next l hl (b + 1) a' s' h' (by omega)
      rw [e2, Option.bind_some, if_neg (by omega)]
      have hw1 : wrap64 (v * 256) = v * 256 := wrap64_id (by omega) (by omega)
      have hw2 : wrap64 (v * 256 + v2) = v * 256 + v2 := wrap64_id (by omega) (by omega)
      refine ⟨_, _, _, rfl, ?_, h2⟩
      simp only [hw1, hw2]
      exact ⟨Int.tmod_nonneg _ (by omega), Or.inr (Int.tmod_lt_of_pos _ (by omega))⟩
    · rw [if_neg c2, if_neg (by omega)]
      exact ⟨_, _, _, rfl, ⟨Int.tmod_nonneg _ hv.1, Or.inr (Int.tmod_lt_of_pos _ (by omega))⟩, h'.up (by omega) hb⟩
theorem draw_among (l : List Int) (hl : Bytes l) (b : Nat) (a s : Int) (xs : List Int) (hx : 0 < xs.length) (h : StA b a) (hb : b + 2 ≤ 1000000) : ∃ v a' s', spec_l1Cur_among.f l a s xs = some (v, a', s') ∧ v ∈ xs ∧ StA (b + 2) a' := by
  unfold spec_l1Cur_among.f
  obtain ⟨v, a', s', e, hv, h'⟩ := draw_pick l hl b a s (xs.length : Int) h hb
  rw [e, Option.bind_some, if_pos hv.1, if_pos (by omega)]
  refine ⟨_, _, _, rfl, ?_, h'⟩
  unfold rd
  have hi : v.toNat < xs.length := by omega
  simp only [List.getD_eq_getElem?_getD, List.getElem?_eq_getElem hi, Option.getD_some]
  exact List.getElem_mem hi
theorem draw_one (l : List Int) (hl : Bytes l) (b : Nat) (a s n : Int) (h : StA b a) (hb : b + 2 ≤ 1000000) : ∃ v a' s', spec_l1Cur_one.f l a s n = some (v, a', s') ∧ StA (b + 2) a' := by
  unfold spec_l1Cur_one.f
  obtain ⟨v, a', s', e, _, h'⟩ := draw_pick l hl b a s n h hb
  rw [e, Option.bind_some]
  exact ⟨_, _, _, rfl, h'⟩
theorem newCur_eq (l : List Int) : newCur.f l = some (l, 0, 0) := rfl
theorem st0 : StA 0 0 := ⟨Int.le_refl _, Int.le_refl _, by decide⟩

theorem draw_lasts (l : List Int) (hl : Bytes l) (b : Nat) (a s : Int) (h : StA b a) (hb : b + 4 ≤ 1000000) : ∃ v a' s', spec_l1Cur_lasts.f l a s = some (v, a', s') ∧ StA (b + 4) a' := by
  unfold spec_l1Cur_lasts.f
  obtain ⟨v, a1, s1, e, _, h1⟩ := draw_pick l hl b a s 500000 h (by omega)
  rw [e, Option.bind_some]
  obtain ⟨v2, a2, s2, e2, _, h2⟩ := draw_among l hl (b + 2) a1 s1 [1000, 50000, 100000, 250000, 1000000, wrap64 (1000 + v)] (by simp) h1 (by omega)
  dsimp only
  rw [e2, Option.bind_some]
  exact ⟨_, _, _, rfl, h2⟩
theorem draw_piece (l : List Int) (hl : Bytes l) (b : Nat) (a s : Int) (h : StA b a) (hb : b + 8 ≤ 1000000) : ∃ v a' s', spec_l1Cur_pieceStep.f l a s = some (v, a', s') ∧ StA (b + 8) a' := by
  unfold spec_l1Cur_pieceStep.f
  obtain ⟨v, a1, s1, e, _, h1⟩ := draw_pick l hl b a s 100 h (by omega)
  rw [e, Option.bind_some]
  obtain ⟨v2, a2, s2, e2, _, h2⟩ := draw_pick l hl (b + 2) a1 s1 100 h1 (by omega)
  dsimp only
  rw [e2, Option.bind_some]
  obtain ⟨v3, a3, s3, e3, _, h3⟩ := draw_among l hl (b + 4) a2 s2 [2001, (-1)] (by simp) h2 (by omega)
  dsimp only
  rw [e3, Option.bind_some]
  obtain ⟨v4, a4, s4, e4, _, h4⟩ := draw_among l hl (b + 6) a3 s3 [0, 1, 7, v, v2, 2000, v3] (by simp) h3 (by omega)
  dsimp only
  rw [e4, Option.bind_some]
  exact ⟨_, _, _, rfl, h4⟩
theorem small20 {n : Nat} (h : n ≤ 2000) : n < 8796093022208 := Nat.lt_of_le_of_lt h (by decide)
theorem draw_tempos_loop (l : List Int) (hl : Bytes l) (n : Int) (hn : n ≤ 20) : ∀ (d : Nat) (x : List S41) (b : Nat) (a s : Int), 20 ≤ x.length + d → 1 ≤ x.length → x.length ≤ 20 → StA b a → b + 8 * d ≤ 1000000 →
    Tot (fun k => spec_l1Cur_tempos.l0 k x n l a s) (fun r => 1 ≤ r.1.length ∧ r.1.length ≤ 20 ∧ StA (b + 8 * d) r.2.1)
  | 0, x, b, a, s, h1, h2, h3, h, hb => by
    refine tstep ?_
    simp only [spec_l1Cur_tempos.l0]
    exact tneg (by omega) (tsome ⟨h2, h3, h.up (by omega) (by omega)⟩)
  | d + 1, x, b, a, s, h1, h2, h3, h, hb => by
    refine tstep ?_
    simp only [spec_l1Cur_tempos.l0, wrap64_id (x := (x.length : Int) - 1) (by omega) (by omega)]
    refine tite (fun c => ?_) (fun c => tsome ⟨h2, h3, h.up (by omega) (by omega)⟩)
    refine tpos (by omega) (tpos (by omega) ?_)
    obtain ⟨v1, a1, s1, e1, _, g1⟩ := draw_pick l hl b a s 40 h (by omega)
    obtain ⟨v2, a2, s2, e2, g2⟩ := draw_lasts l hl (b + 2) a1 s1 g1 (by omega)
    obtain ⟨v3, a3, s3, e3, _, g3⟩ := draw_among l hl (b + 6) a2 s2 [v2, (rd_T41 x ((x.length : Int) - 1)).f1] (by simp) g2 (by omega)
    rw [e1]; refine tlet ?_
    rw [e2]; refine tlet ?_
    rw [e3]; refine tlet (tpos (small20 (by omega)) ?_)
    refine tmono (draw_tempos_loop l hl n hn d _ (b + 8) a3 s3 (by rw [List.length_append]; simp; omega) (by rw [List.length_append]; simp) (by rw [List.length_append]; simp; omega) g3 (by omega)) (fun r hr => ?_)
    rw [show b + 8 * (d + 1) = b + 8 + 8 * d by omega]
    exact hr
theorem draw_tempos (l : List Int) (hl : Bytes l) (b : Nat) (a s : Int) (h : StA b a) (hb : b + 200 ≤ 1000000) : Tot (fun k => spec_l1Cur_tempos.f k l a s) (fun r => 1 ≤ r.1.length ∧ r.1.length ≤ 20 ∧ StA (b + 200) r.2.1) := by
  unfold spec_l1Cur_tempos.f
  obtain ⟨v1, a1, s1, e1, g1⟩ := draw_lasts l hl b a s h (by omega)
  obtain ⟨v2, a2, s2, e2, hv, g2⟩ := draw_pick l hl (b + 4) a1 s1 5 g1 (by omega)
  obtain ⟨v3, a3, s3, e3, g3⟩ := draw_one l hl (b + 6) a2 s2 20 g2 (by omega)
  rw [e1]; refine tlet (tlet ?_)
  rw [e2]; refine tlet ?_
  rw [e3]; refine tlet ?_
  have key : ∀ n : Int, n ≤ 20 → Tot (fun k => spec_l1Cur_tempos.j0 k [(⟨0, v1⟩ : S41)] n l a3 s3) (fun r => 1 ≤ r.1.length ∧ r.1.length ≤ 20 ∧ StA (b + 200) r.2.1) := fun n hn => by
    refine tstep ?_
    simp only [spec_l1Cur_tempos.j0]
    exact tmono (draw_tempos_loop l hl n hn 19 _ (b + 8) a3 s3 (by simp) (by simp) (by simp) g3 (by omega)) (fun r hr => ⟨hr.1, hr.2.1, hr.2.2.up (by omega) hb⟩)
  exact tite (fun _ => key 20 (Int.le_refl _)) (fun _ => key _ (by rw [wrap64_id (by omega) (by omega)]; omega))
theorem draw_any_loop (l : List Int) (n : Int) (hn : n ≤ 21) (a s : Int) : ∀ (d : Nat) (x : List S41), 21 ≤ x.length + d → x.length ≤ 21 → Tot (fun k => spec_l1Cur_anyTempos.l0 k x n l a s) (fun r => r.1.length ≤ 21 ∧ r.2.1 = a)
  | 0, x, h1, h2 => by
    refine tstep ?_
    simp only [spec_l1Cur_anyTempos.l0]
    exact tneg (by omega) (tsome ⟨h2, rfl⟩)
  | d + 1, x, h1, h2 => by
    refine tstep ?_
    simp only [spec_l1Cur_anyTempos.l0]
    refine tite (fun c => tpos (small20 (by omega)) ?_) (fun c => tsome ⟨h2, rfl⟩)
    exact draw_any_loop l n hn a s d _ (by rw [List.length_append]; simp; omega) (by rw [List.length_append]; simp; omega)
theorem draw_anyTempos (l : List Int) (hl : Bytes l) (b : Nat) (a s : Int) (h : StA b a) (hb : b + 300 ≤ 1000000) : Tot (fun k => spec_l1Cur_anyTempos.f k l a s) (fun r => r.1.length ≤ 21 ∧ StA (b + 300) r.2.1) := by
  unfold spec_l1Cur_anyTempos.f
  refine tbind (draw_tempos l hl b a s h (by omega)) (fun t ht => ?_)
  obtain ⟨t1, t2, t3⟩ := ht
  obtain ⟨v1, a1, s1, e1, hv, g1⟩ := draw_pick l hl (b + 200) t.2.1 t.2.2 (t.1.length : Int) t3 (by omega)
  rw [e1]; refine tlet (tpos hv.1 (tpos (by dsimp only; omega) ?_))
  obtain ⟨v2, a2, s2, e2, hv2, g2⟩ := draw_pick l hl (b + 202) a1 s1 30 g1 (by omega)
  dsimp only
  rw [e2]; refine tlet ?_
  dsimp only
  refine tite (fun _ => ?_) (fun _ => tite (fun _ => ?_) (fun _ => tite (fun _ => tsome ⟨Nat.zero_le _, g2.up (by omega) hb⟩) (fun _ => tite (fun _ => ?_) (fun _ => tsome ⟨by dsimp only; omega, g2.up (by omega) hb⟩))))
  · obtain ⟨v3, a3, s3, e3, _, g3⟩ := draw_among l hl (b + 204) a2 s2 [(-1), 0, 1, 2000, 2001] (by simp) g2 (by omega)
    rw [e3]
    exact tlet (tsome ⟨by rw [List.length_set]; omega, g3.up (by omega) hb⟩)
  · obtain ⟨v3, a3, s3, e3, _, g3⟩ := draw_among l hl (b + 204) a2 s2 [999, 1000, 1000000, 1000001] (by simp) g2 (by omega)
    rw [e3]
    exact tlet (tsome ⟨by rw [List.length_set]; omega, g3.up (by omega) hb⟩)
  · obtain ⟨v3, a3, s3, e3, hv3, g3⟩ := draw_pick l hl (b + 204) a2 s2 2 g2 (by omega)
    rw [e3]
    refine tlet (tmono (draw_any_loop l _ (by dsimp only; rw [wrap64_id (by omega) (by omega)]; omega) a3 s3 21 t.1 (by omega) (by omega)) (fun r hr => ⟨hr.1, by rw [hr.2]; exact g3.up (by omega) hb⟩))

theorem draw_TempoAt (l : List Int) (hl : Bytes l) : Tot (fun k => spec_DrawTempoAt.f k l) (fun r => r.1.length ≤ 21) := by
  unfold spec_DrawTempoAt.f
  rw [newCur_eq]; refine tlet (tbind (draw_anyTempos l hl 0 0 0 st0 (by omega)) (fun t ht => ?_))
  obtain ⟨v, a, s, e, _⟩ := draw_piece l hl (0 + 300) t.2.1 t.2.2 ht.2 (by omega)
  dsimp only
  rw [e]; exact tlet (tsome ht.1)

theorem draw_TimeBetween (l : List Int) (hl : Bytes l) : Tot (fun k => spec_DrawTimeBetween.f k l) (fun r => r.1.length ≤ 21) := by
  unfold spec_DrawTimeBetween.f
  rw [newCur_eq]; refine tlet ?_
  obtain ⟨v1, a1, s1, e1, g1⟩ := draw_piece l hl 0 0 0 st0 (by omega)
  dsimp only
  rw [e1]; refine tlet ?_
  dsimp only
  refine tbind (draw_anyTempos l hl (0 + 8) a1 s1 g1 (by omega)) (fun t ht => ?_)
  obtain ⟨v2, a2, s2, e2, _, g2⟩ := draw_pick l hl (0 + 8 + 300) t.2.1 t.2.2 50 ht.2 (by omega)
  rw [e2]; refine tlet ?_
  obtain ⟨v3, a3, s3, e3, g3⟩ := draw_piece l hl (0 + 8 + 300 + 2) a2 s2 g2 (by omega)
  dsimp only
  rw [e3]; refine tlet ?_
  obtain ⟨v4, a4, s4, e4, _, g4⟩ := draw_among l hl (0 + 8 + 300 + 2 + 8) a3 s3 [v1, wrap64 (v1 + 1), wrap64 (v1 + v2), 2000, v3] (by simp) g3 (by omega)
  dsimp only
  rw [e4]; exact tlet (tsome ht.1)

theorem qTempos_tot (l : List S41) (hl : l.length ≤ 1048576) : Tot (fun k => laws_qTempos.f k l l) (fun b => b = true) := by
  unfold laws_qTempos.f
  refine tpos rfl ?_
  refine trec (σ := Int) (fun i k => laws_qTempos.l0 k l l (l.length : Int) i) (fun i => ((l.length : Int) - i).toNat) (fun i => 0 ≤ i ∧ i ≤ (l.length : Int)) (fun _ b => b = true) ?_ 0 ⟨Int.le_refl _, by omega⟩
  rintro i ⟨h0, h1⟩ ih
  simp only [laws_qTempos.l0, wrap64_id (x := i + 1) (by omega) (by omega)]
  refine tite (fun c => tpos h0 (tpos c (tpos c (tneg (by simp) (ih (i + 1) ⟨by omega, by omega⟩ (by (try dsimp only); omega)))))) (fun _ => tsome rfl)

theorem tconf {α : Type} {g : Nat → Option α} {r : α} {Q : α → Prop} (h : Tot g (fun y => y = r)) (k : Tot g Q) : Q r := by
  obtain ⟨a, _, h1, h2⟩ := tand h k
  rw [← h1]; exact h2

def TimeR (l : List S41) (s : Int) (r : Int × Bool) : Prop := (TeGood l ∧ (0 ≤ s ∧ s ≤ 2000) ∧ r = (tm l s, true)) ∨ (¬ (TeGood l ∧ 0 ≤ s ∧ s ≤ 2000) ∧ r = (0, false))
theorem specTimeR (l : List S41) (s : Int) (hl : l.length ≤ 1048576) : Tot (fun k => spec_TimeOf.f k l s) (fun r => TimeR l s r) := by
  unfold spec_TimeOf.f
  refine tbind (teGood_tot l hl) (fun b hb => ?_)
  simp only [teStep_eq, Option.bind_some, decide_eq_true_eq]
  refine tite (fun c => tite (fun c2 => ?_) (fun c2 => tsome (.inr ⟨fun h => c2 h.2, rfl⟩))) (fun c => tsome (.inr ⟨fun h => c (hb.2 h.1), rfl⟩))
  refine tbind (teTime_tot l (hb.1 c) s c2.1 c2.2) (fun _ e => ?_); subst e
  exact tsome (.inl ⟨hb.1 c, c2, rfl⟩)
theorem timeOf_post (l : List S41) (s : Int) (hl : l.length ≤ 1048576) : ∃ r, TimeR l s r ∧ Tot (fun k => spec_TimeOf.f k l s) (fun y => y = r) ∧ Tot (fun k => impl_TimeOf.f k l s) (fun y => y = r) := by
  obtain ⟨r, h1, h2⟩ := timeOf_agree l s hl
  exact ⟨r, tconf (Q := fun r => TimeR l s r) h1 (specTimeR l s hl), h1, h2⟩
theorem timeOf_good (l : List S41) (s : Int) (hl : l.length ≤ 1048576) (hg : TeGood l) (hs : 0 ≤ s ∧ s ≤ 2000) : Tot (fun k => spec_TimeOf.f k l s) (fun y => y = (tm l s, true)) ∧ Tot (fun k => impl_TimeOf.f k l s) (fun y => y = (tm l s, true)) := by
  obtain ⟨r, hr, h1, h2⟩ := timeOf_post l s hl
  rcases hr with ⟨_, _, rfl⟩ | ⟨h, _⟩
  · exact ⟨h1, h2⟩
  · exact absurd ⟨hg, hs⟩ h

theorem tempoAt_good (l : List S41) (s q : Int) (hl : l.length ≤ 1048576) (hg : TeGood l) (hs : 0 ≤ s ∧ s ≤ 2000) (hq : TeAt l s q) : Tot (fun k => spec_TempoAt.f k l s) (fun y => y = ((rd_T41 l q).f1, true)) ∧ Tot (fun k => impl_TempoAt.f k l s) (fun y => y = ((rd_T41 l q).f1, true)) := by
  obtain ⟨r, h1, h2⟩ := tempoAt_agree l s hl
  have hi : Tot (fun k => impl_TempoAt.f k l s) (fun y => y = ((rd_T41 l q).f1, true)) := by
    unfold impl_TempoAt.f
    refine tbind (areTempos_tot l hl) (fun b hb => tpos (hb.2 hg) ?_)
    simp only [isTempoStep_eq, Option.bind_some, decide_eq_true_eq]
    refine tpos hs ?_
    refine tbind (implTempoAt_tot l hg s q hq) (fun _ e => ?_); subst e
    exact tsome rfl
  have e : r = ((rd_T41 l q).f1, true) := tconf (Q := fun y => y = ((rd_T41 l q).f1, true)) h2 hi
  rw [e] at h1
  exact ⟨h1, hi⟩

/-- A step on is as much later as the step lasts. -/
theorem tm_step (l : List S41) (hg : TeGood l) (s q : Int) (h0 : 0 ≤ s) (hq : TeAt l s q) : tm l (s + 1) = tm l s + (rd_T41 l q).f1 := by
  obtain ⟨q0, q1, q2, q3⟩ := hq
  have key : ∀ i : Nat, i ≤ l.length → tmUpto l (s + 1) i = tmUpto l s i + (if q < (i : Int) then (rd_T41 l q).f1 else 0) := by
    intro i
    induction i with
    | zero => intro _; rw [if_neg (by omega)]; rfl
    | succ i ih =>
      intro hi
      have h1 := ih (by omega)
      have hseg : seg l (s + 1) (i : Int) = seg l s (i : Int) + (if (i : Int) = q then (rd_T41 l q).f1 else 0) := by
        rcases Int.lt_trichotomy (i : Int) q with c | c | c
        · rw [if_neg (by omega)]
          have m := te_mono l hg ((i : Int) + 1) q (by omega) (by omega) q1
          have hc : (i : Int) + 1 < (l.length : Int) := by omega
          unfold seg
          rw [if_pos hc, if_pos hc]
          have e1 : mn (s + 1) (rd_T41 l ((i : Int) + 1)).f0 = (rd_T41 l ((i : Int) + 1)).f0 := by unfold mn; split <;> omega
          have e2 : mn s (rd_T41 l ((i : Int) + 1)).f0 = (rd_T41 l ((i : Int) + 1)).f0 := by unfold mn; split <;> omega
          rw [e1, e2, Int.add_zero]
        · rw [if_pos c, ← c]
          rw [← c] at q2 q3
          have hm : (s + 1 - (rd_T41 l (i : Int)).f0) * (rd_T41 l (i : Int)).f1 = (s - (rd_T41 l (i : Int)).f0) * (rd_T41 l (i : Int)).f1 + (rd_T41 l (i : Int)).f1 := by
            rw [show s + 1 - (rd_T41 l (i : Int)).f0 = (s - (rd_T41 l (i : Int)).f0) + 1 by omega, Int.add_mul, Int.one_mul]
          have hz : ¬ s > (rd_T41 l (i : Int)).f0 → (s - (rd_T41 l (i : Int)).f0) * (rd_T41 l (i : Int)).f1 = 0 := fun h => by
            rw [show s - (rd_T41 l (i : Int)).f0 = 0 by omega, Int.zero_mul]
          unfold seg
          by_cases cn : (i : Int) + 1 < (l.length : Int)
          · have q4 := q3 cn
            have e1 : mn (s + 1) (rd_T41 l ((i : Int) + 1)).f0 = s + 1 := by unfold mn; split <;> omega
            have e2 : mn s (rd_T41 l ((i : Int) + 1)).f0 = s := by unfold mn; split <;> omega
            rw [if_pos cn, if_pos cn, e1, e2, if_pos (by omega), hm]
            by_cases cs : s > (rd_T41 l (i : Int)).f0
            · rw [if_pos cs]
            · rw [if_neg cs, hz cs]
          · rw [if_neg cn, if_neg cn, if_pos (by omega), hm]
            by_cases cs : s > (rd_T41 l (i : Int)).f0
            · rw [if_pos cs]
            · rw [if_neg cs, hz cs]
        · rw [if_neg (by omega)]
          have m := te_mono l hg (q + 1) (i : Int) (by omega) (by omega) (by omega)
          have q4 := q3 (by omega)
          have z : ∀ u : Int, u ≤ (rd_T41 l (i : Int)).f0 → seg l u (i : Int) = 0 := fun u hu => by
            unfold seg
            split
            · rw [if_neg]
              unfold mn; split <;> omega
            · rw [if_neg (by omega)]
          rw [z (s + 1) (by omega), z s (by omega)]; rfl
      show tmUpto l (s + 1) i + seg l (s + 1) (i : Int) = tmUpto l s i + seg l s (i : Int) + _
      rw [h1, hseg]
      by_cases c : (i : Int) = q
      · rw [if_neg (by omega), if_pos c, if_pos (by omega)]; omega
      · rw [if_neg c]
        by_cases c2 : q < (i : Int)
        · rw [if_pos c2, if_pos (by omega)]; omega
        · rw [if_neg c2, if_neg (by omega)]; omega
  have := key l.length (Nat.le_refl _)
  rw [if_pos q1] at this
  exact this

def simpN (l : List S41) : Nat → List S41
  | 0 => []
  | i + 1 => if i = 0 ∨ (rd_T41 l (i : Int)).f1 ≠ (rd_T41 l ((i : Int) - 1)).f1 then simpN l i ++ [rd_T41 l (i : Int)] else simpN l i
def vL (o : List S41) (s : Int) : Int := o.foldl (fun t x => if x.f0 ≤ s then x.f1 else t) 0
theorem vL_snoc (o : List S41) (x : S41) (s : Int) : vL (o ++ [x]) s = if x.f0 ≤ s then x.f1 else vL o s := by
  unfold vL; rw [List.foldl_append]; rfl
theorem take_rd (l : List S41) (i : Nat) (h : i < l.length) : l.take (i + 1) = l.take i ++ [rd_T41 l (i : Int)] := take_snoc z41 l i h
theorem vL_at (l : List S41) (hg : TeGood l) (s q : Int) (hq : TeAt l s q) : vL l s = (rd_T41 l q).f1 := by
  obtain ⟨q0, q1, q2, q3⟩ := hq
  have key : ∀ i : Nat, i ≤ l.length → q < (i : Int) → vL (l.take i) s = (rd_T41 l q).f1 := by
    intro i
    induction i with
    | zero => intro _ h; omega
    | succ i ih =>
      intro hi h
      rw [take_rd l i (by omega), vL_snoc]
      by_cases c : (i : Int) = q
      · rw [c, if_pos q2]
      · have m := te_mono l hg (q + 1) i (by omega) (by omega) (by omega)
        have := q3 (by omega)
        rw [if_neg (by omega)]
        exact ih (by omega) (by omega)
  have := key l.length (Nat.le_refl _) q1
  rwa [List.take_length] at this
theorem rd_snoc_lt (o : List S41) (x : S41) (j : Int) (h0 : 0 ≤ j) (h : j < (o.length : Int)) : rd_T41 (o ++ [x]) j = rd_T41 o j := by
  unfold rd_T41
  simp only [List.getD]
  rw [List.getElem?_append_left (by omega)]
theorem rd_snoc_at (o : List S41) (x : S41) : rd_T41 (o ++ [x]) (o.length : Int) = x := by
  unfold rd_T41
  simp [List.getD]
def SimpI (l : List S41) (i : Nat) (o : List S41) : Prop :=
  1 ≤ o.length ∧ o.length ≤ i ∧ (∀ j : Int, 0 ≤ j → j < (o.length : Int) → TeC o j ∧ (0 < j → (rd_T41 o (j - 1)).f1 ≠ (rd_T41 o j).f1)) ∧
  (rd_T41 o ((o.length : Int) - 1)).f0 ≤ (rd_T41 l ((i : Int) - 1)).f0 ∧ (rd_T41 o ((o.length : Int) - 1)).f1 = (rd_T41 l ((i : Int) - 1)).f1 ∧ ∀ s, vL o s = vL (l.take i) s
theorem simp_inv (l : List S41) (hg : TeGood l) : ∀ i : Nat, i + 1 ≤ l.length → SimpI l (i + 1) (simpN l (i + 1))
  | 0, h => by
    have h0 := hg.1 0 (by omega) (by omega)
    have e : simpN l 1 = [rd_T41 l 0] := by simp [simpN]
    have e2 : l.take (0 + 1) = [rd_T41 l 0] := by rw [take_rd l 0 (by omega)]; rfl
    show SimpI l 1 (simpN l 1)
    rw [e]
    refine ⟨Nat.le_refl _, Nat.le_refl _, fun j j0 j1 => ?_, Int.le_refl _, rfl, fun s => by rw [e2]⟩
    obtain rfl : j = 0 := by
      have : (([rd_T41 l 0] : List S41).length : Int) = 1 := rfl
      omega
    refine ⟨⟨?_, fun _ => ?_, fun h => absurd h (by decide)⟩, fun h => absurd h (by decide)⟩
    · exact h0.1
    · exact h0.2.1 rfl
  | i + 1, h => by
    obtain ⟨a1, a2, a3, a4, a5, a6⟩ := simp_inv l hg i (by omega)
    obtain ⟨o, ho⟩ : ∃ o, o = simpN l (i + 1) := ⟨_, rfl⟩
    obtain ⟨x, hx⟩ : ∃ x, x = rd_T41 l ((i + 1 : Nat) : Int) := ⟨_, rfl⟩
    rw [← ho] at a1 a2 a3 a4 a5 a6
    have g := hg.1 ((i + 1 : Nat) : Int) (by omega) (by omega)
    have g1 := g.2.2 (by omega)
    have gx : OkChange x := by rw [hx]; exact g.1
    rw [← hx] at g1
    have t2 := take_rd l (i + 1) (by omega)
    rw [← hx] at t2
    have step : simpN l (i + 1 + 1) = if i + 1 = 0 ∨ x.f1 ≠ (rd_T41 l (((i + 1 : Nat) : Int) - 1)).f1 then o ++ [x] else o := by
      rw [hx, ho]; rfl
    rw [step]
    have lx : (rd_T41 l (((i + 1 + 1 : Nat) : Int) - 1)) = x := by
      rw [hx]; congr 1; omega
    by_cases c : x.f1 ≠ (rd_T41 l (((i + 1 : Nat) : Int) - 1)).f1
    · rw [if_pos (Or.inr c)]
      have hlen : ((o ++ [x]).length : Int) = (o.length : Int) + 1 := by simp
      refine ⟨by simp, by simp; omega, fun j j0 j1 => ?_, ?_, ?_, fun s => ?_⟩
      · rw [hlen] at j1
        by_cases cj : j < (o.length : Int)
        · have b := a3 j j0 cj
          unfold TeC at b ⊢
          rw [rd_snoc_lt o x j j0 cj]
          by_cases j2 : 0 < j
          · rw [rd_snoc_lt o x (j - 1) (by omega) (by omega)]
            exact b
          · exact ⟨⟨b.1.1, b.1.2.1, fun h => absurd h j2⟩, fun h => absurd h j2⟩
        · obtain rfl : j = (o.length : Int) := by omega
          unfold TeC
          rw [rd_snoc_at o x, rd_snoc_lt o x ((o.length : Int) - 1) (by omega) (by omega)]
          refine ⟨⟨gx, fun h => by omega, fun _ => by omega⟩, fun _ h => c ?_⟩
          rw [← h, a5]
      · rw [hlen, show (o.length : Int) + 1 - 1 = (o.length : Int) by omega, rd_snoc_at, lx]
        exact Int.le_refl _
      · rw [hlen, show (o.length : Int) + 1 - 1 = (o.length : Int) by omega, rd_snoc_at, lx]
      · rw [vL_snoc, t2, vL_snoc, a6 s]
    · rw [if_neg (fun h => h.elim (by omega) c)]
      have c' : x.f1 = (rd_T41 l (((i + 1 : Nat) : Int) - 1)).f1 := Classical.byContradiction c
      refine ⟨a1, by omega, a3, ?_, ?_, fun s => ?_⟩
      · rw [lx]; omega
      · rw [lx, a5, c']
      · rw [a6 s, t2, vL_snoc]
        by_cases cs : x.f0 ≤ s
        · rw [if_pos cs, take_rd l i (by omega), vL_snoc]
          have e : rd_T41 l (i : Int) = rd_T41 l (((i + 1 : Nat) : Int) - 1) := by congr 1; omega
          rw [e, if_pos (by omega), c']
        · rw [if_neg cs]
theorem simp_inv' (l : List S41) (hg : TeGood l) : SimpI l l.length (simpN l l.length) := by
  have hn := hg.2
  have h := simp_inv l hg (l.length - 1) (by omega)
  rwa [show l.length - 1 + 1 = l.length by omega] at h
theorem simp_good (l : List S41) (hg : TeGood l) : TeGood (simpN l l.length) := by
  obtain ⟨a1, a2, a3, _⟩ := simp_inv' l hg
  have hn := hg.2
  exact ⟨fun j j0 j1 => (a3 j j0 j1).1, by omega, by omega⟩
theorem simp_same (o : List S41) (h : ∀ j : Int, 0 < j → j < (o.length : Int) → (rd_T41 o (j - 1)).f1 ≠ (rd_T41 o j).f1) : ∀ i : Nat, i ≤ o.length → simpN o i = o.take i
  | 0, _ => by rfl
  | i + 1, hi => by
    have ih := simp_same o h i (by omega)
    have c : i = 0 ∨ (rd_T41 o (i : Int)).f1 ≠ (rd_T41 o ((i : Int) - 1)).f1 := by
      by_cases c0 : i = 0
      · exact .inl c0
      · exact .inr (fun e => h i (by omega) (by omega) e.symm)
    show (if i = 0 ∨ (rd_T41 o (i : Int)).f1 ≠ (rd_T41 o ((i : Int) - 1)).f1 then simpN o i ++ [rd_T41 o (i : Int)] else simpN o i) = _
    rw [if_pos c, ih, take_rd o i (by omega)]
theorem simp_idem (l : List S41) (hg : TeGood l) : simpN (simpN l l.length) (simpN l l.length).length = simpN l l.length := by
  obtain ⟨a1, a2, a3, _⟩ := simp_inv' l hg
  rw [simp_same _ (fun j j0 j1 => (a3 j (by omega) j1).2 j0) _ (Nat.le_refl _), List.take_length]
theorem simp_tm (l : List S41) (hg : TeGood l) (n : Nat) : tm (simpN l l.length) n = tm l n := by
  have hg2 := simp_good l hg
  induction n with
  | zero =>
    have h1 := tm_zero l hg
    have h2 := tm_zero _ hg2
    show tm (simpN l l.length) 0 = tm l 0
    rw [h1, h2]
  | succ n ih =>
    obtain ⟨q, _, hq⟩ := teAt_tot l hg n (by omega)
    obtain ⟨q', _, hq'⟩ := teAt_tot _ hg2 n (by omega)
    have v1 := vL_at l hg n q hq
    have v2 := vL_at _ hg2 n q' hq'
    have v3 := (simp_inv' l hg).2.2.2.2.2 n
    rw [List.take_length] at v3
    have s1 := tm_step l hg n q (by omega) hq
    have s2 := tm_step _ hg2 n q' (by omega) hq'
    show tm (simpN l l.length) ((n : Int) + 1) = tm l ((n : Int) + 1)
    rw [s1, s2, ← v1, ← v2, v3, ih]

theorem rd_erase_lt (l : List S41) (m j : Nat) (h : j < m) : rd_T41 (l.eraseIdx m) (j : Int) = rd_T41 l (j : Int) := by
  unfold rd_T41
  simp only [List.getD, Int.toNat_natCast, List.getElem?_eraseIdx, if_pos h]
theorem rd_erase_ge (l : List S41) (m j : Nat) (h : m ≤ j) : rd_T41 (l.eraseIdx m) (j : Int) = rd_T41 l ((j + 1 : Nat) : Int) := by
  unfold rd_T41
  simp only [List.getD, Int.toNat_natCast, List.getElem?_eraseIdx, if_neg (Nat.not_lt.2 h)]
theorem drop_len (l : List S41) (m : Nat) (h : m < l.length) : (l.eraseIdx m).length = l.length - 1 := by
  rw [List.length_eraseIdx, if_pos h]
theorem drop_good (l : List S41) (hg : TeGood l) (m : Nat) (h1 : 1 ≤ m) (h2 : m < l.length) : TeGood (l.eraseIdx m) := by
  have hlen := drop_len l m h2
  have hn := hg.2
  refine ⟨fun j j0 j1 => ?_, by omega, by omega⟩
  obtain ⟨n, rfl⟩ := Int.eq_ofNat_of_zero_le j0
  unfold TeC
  by_cases c : n < m
  · have g := hg.1 n (by omega) (by omega)
    unfold TeC at g
    rw [rd_erase_lt l m n c]
    refine ⟨g.1, g.2.1, fun hp => ?_⟩
    rw [show (n : Int) - 1 = ((n - 1 : Nat) : Int) by omega, rd_erase_lt l m (n - 1) (by omega), show ((n - 1 : Nat) : Int) = (n : Int) - 1 by omega]
    exact g.2.2 hp
  · have g := hg.1 ((n + 1 : Nat) : Int) (by omega) (by omega)
    rw [rd_erase_ge l m n (by omega)]
    refine ⟨g.1, fun h => by omega, fun hp => ?_⟩
    by_cases c2 : n = m
    · rw [show (n : Int) - 1 = ((n - 1 : Nat) : Int) by omega, rd_erase_lt l m (n - 1) (by omega)]
      exact te_lt l hg _ _ (by omega) (by omega) (by omega)
    · rw [show (n : Int) - 1 = ((n - 1 : Nat) : Int) by omega, rd_erase_ge l m (n - 1) (by omega)]
      exact te_lt l hg _ _ (by omega) (by omega) (by omega)
theorem drop_addAt (l : List S41) (hg : TeGood l) (m : Nat) (h2 : m < l.length) : AddAt (l.eraseIdx m) (rd_T41 l (m : Int)).f0 m m := by
  have hlen := drop_len l m h2
  refine ⟨by omega, Nat.le_refl _, by omega, by omega, fun j hj => ?_, fun j h3 h4 => by omega, fun j h3 h4 => ?_⟩
  · rw [rd_erase_lt l m j hj]
    exact te_lt l hg _ _ (by omega) (by omega) (by omega)
  · rw [rd_erase_ge l m j h3]
    exact te_lt l hg _ _ (by omega) (by omega) (by omega)
theorem drop_back (l : List S41) (m : Nat) (h2 : m < l.length) : addRes (l.eraseIdx m) (rd_T41 l (m : Int)) m m = l := by
  unfold addRes
  have hl : (l.take m).length = m := by rw [List.length_take]; omega
  rw [List.eraseIdx_eq_take_drop_succ, List.take_left' hl, List.drop_left' hl, ← take_rd l m h2, List.take_append_drop]
theorem drop_post (l : List S41) (p : Int) (hl : l.length ≤ 1048576) : ∃ r, Tot (fun k => spec_DropTempo.f k l p) (fun y => y = r) ∧ Tot (fun k => impl_DropTempo.f k l p) (fun y => y = r) ∧ r.1.length ≤ 1048576 ∧ ((∃ m : Nat, p = (m : Int) ∧ TeGood l ∧ 1 ≤ m ∧ m < l.length ∧ r = (l.eraseIdx m, true)) ∨ r = ([], false)) := by
  obtain ⟨r, h1, h2, h3⟩ := DropTempo_agree l p hl
  refine ⟨r, h1, h2, h3, ?_⟩
  by_cases hg : TeGood l ∧ 1 ≤ p ∧ p ≤ (l.length : Int) - 1
  · obtain ⟨hg, hp⟩ := hg
    obtain ⟨m, rfl⟩ := Int.eq_ofNat_of_zero_le (show 0 ≤ p by omega)
    refine .inl ⟨m, rfl, hg, by omega, by omega, ?_⟩
    refine tconf (Q := fun r => r = (l.eraseIdx m, true)) h2 ?_
    unfold impl_DropTempo.f
    refine tbind (areTempos_tot l hl) (fun b h => tpos (h.2 hg) (tneg (by omega) ?_))
    rw [decide_eq_false (show ¬ ((m : Int) ≥ (l.length : Int)) by omega)]
    refine tstep ?_
    simp only [impl_DropTempo.j0, cloneChange l hl, Option.bind_some, wrapN1 m (show m ≤ 1048576 by omega), deleteChange l m (show m < l.length by omega) hl]
    exact tneg (by simp) (tsome rfl)
  · refine .inr ?_
    refine tconf (Q := fun r => r = ([], false)) h1 ?_
    unfold spec_DropTempo.f
    refine tbind (teGood_tot l hl) (fun b h => tite (fun c => ?_) (fun c => tsome rfl))
    rw [l1In_eq, wrap64_id (x := (l.length : Int) - 1) (by omega) (by omega), decide_eq_false (fun hh => hg ⟨h.1 c, hh⟩)]
    exact tlet (tneg (by simp) (tsome rfl))
theorem add_back (l : List S41) (hl : l.length ≤ 1048576) (hg : TeGood l) (m : Nat) (h1 : 1 ≤ m) (h2 : m < l.length) : Tot (fun k => impl_AddTempo.f k (l.eraseIdx m) (rd_T41 l (m : Int)).f0 (rd_T41 l (m : Int)).f1) (fun y => y = (l, true)) := by
  have hlen := drop_len l m h2
  have hg2 := drop_good l hg m h1 h2
  have hx : 0 ≤ (rd_T41 l (m : Int)).f0 ∧ (rd_T41 l (m : Int)).f0 ≤ 2000 ∧ 1000 ≤ (rd_T41 l (m : Int)).f1 ∧ (rd_T41 l (m : Int)).f1 ≤ 1000000 := (hg.1 (m : Int) (by omega) (by omega)).1
  unfold impl_AddTempo.f
  refine tbind (areTempos_tot _ (by omega)) (fun bb h => tpos (h.2 hg2) ?_)
  simp only [isChange_eq, Option.bind_some]
  rw [decide_eq_true hx, Bool.not_true]
  refine tstep ?_
  simp only [impl_AddTempo.j0, cloneChange _ (show (l.eraseIdx m).length ≤ 1048576 by omega), Option.bind_some]
  refine tneg (by simp) (tmono (implAdd_tot (l.eraseIdx m) hg2 (rd_T41 l (m : Int)).f0 (rd_T41 l (m : Int)).f1 hx m m (drop_addAt l hg m h2)) (fun r hr => ?_))
  have e2 : addRes (l.eraseIdx m) (⟨(rd_T41 l (m : Int)).f0, (rd_T41 l (m : Int)).f1⟩ : S41) m m = l := drop_back l m h2
  rw [e2] at hr
  rcases hr with ⟨_, rfl⟩ | ⟨h, _⟩
  · rfl
  · exact absurd hg h

theorem paper_frac (A B : Int) (hA : 1 ≤ A) (hB : 1 ≤ B) : 1 ≤ B / (Nat.gcd A.toNat B.toNat : Int) ∧ B / (Nat.gcd A.toNat B.toNat : Int) ≤ B ∧ (A / (Nat.gcd A.toNat B.toNat : Int)) * B = A * (B / (Nat.gcd A.toNat B.toNat : Int)) ∧ 0 ≤ A / (Nat.gcd A.toNat B.toNat : Int) ∧ A / (Nat.gcd A.toNat B.toNat : Int) ≤ A := by
  obtain ⟨a, rfl⟩ := Int.eq_ofNat_of_zero_le (show 0 ≤ A by omega)
  obtain ⟨b, rfl⟩ := Int.eq_ofNat_of_zero_le (show 0 ≤ B by omega)
  simp only [Int.toNat_natCast]
  have hg : 0 < Nat.gcd a b := Nat.gcd_pos_of_pos_left _ (by omega)
  obtain ⟨x, hx⟩ := Nat.gcd_dvd_left a b
  obtain ⟨y, hy⟩ := Nat.gcd_dvd_right a b
  obtain ⟨g, hge⟩ : ∃ g, g = Nat.gcd a b := ⟨_, rfl⟩
  rw [← hge] at hg hx hy ⊢
  have e1 : (a : Int) / (g : Int) = (x : Int) := by
    rw [hx, ← Int.natCast_ediv, Nat.mul_div_cancel_left _ hg]
  have e2 : (b : Int) / (g : Int) = (y : Int) := by
    rw [hy, ← Int.natCast_ediv, Nat.mul_div_cancel_left _ hg]
  have hy1 : y ≤ g * y := Nat.le_mul_of_pos_left y hg
  have hx1 : x ≤ g * x := Nat.le_mul_of_pos_left x hg
  have hy0 : 1 ≤ y := by
    refine Nat.pos_of_ne_zero (fun h => ?_)
    rw [h, Nat.mul_zero] at hy
    omega
  rw [e1, e2]
  refine ⟨by omega, by omega, ?_, by omega, by omega⟩
  rw [hx, hy, Int.natCast_mul, Int.natCast_mul, ← Int.mul_assoc, Int.mul_comm (x : Int) (g : Int)]
theorem even_bounds (T D : Int) (hT : 0 ≤ T) (hT2 : T ≤ 40000000000) (hD : 1 ≤ D) (hD2 : D ≤ 2000) : wrap64 (Int.tdiv T D) = T / D ∧ 0 ≤ T / D ∧ T / D ≤ T ∧ (T / D) * D ≤ T ∧ T < (T / D + 1) * D ∧ (T / D + 1) * D ≤ T + D ∧ 0 ≤ (T / D) * D := by
  have h1 : 0 ≤ T / D := Int.ediv_nonneg hT (by omega)
  have h2 : T / D ≤ T := Int.ediv_le_self _ hT
  have h3 := Int.ediv_mul_le T (show D ≠ 0 by omega)
  have h4 := Int.lt_ediv_add_one_mul_self T (show 0 < D by omega)
  refine ⟨?_, h1, h2, h3, h4, ?_, Int.mul_nonneg h1 (by omega)⟩
  · rw [Int.tdiv_eq_ediv_of_nonneg hT, wrap64_id (by omega) (by omega)]
  · rw [Int.add_mul, Int.one_mul]; omega

theorem even_post (l : List S41) (a b : Int) (hl : l.length ≤ 1048576) : ∃ r, Tot (fun k => spec_EvenTempo.f k l a b) (fun y => y = r) ∧ Tot (fun k => impl_EvenTempo.f k l a b) (fun y => y = r) ∧ ((TeTwo l a b ∧ a ≠ b ∧ r = (wrap64 (Int.tdiv (tm l b - tm l a) (b - a)), true)) ∨ r = (0, false)) := by
  obtain ⟨r, h1, h2⟩ := evenTempo_agree l a b hl
  refine ⟨r, h1, h2, tconf (Q := fun r => (TeTwo l a b ∧ a ≠ b ∧ r = (wrap64 (Int.tdiv (tm l b - tm l a) (b - a)), true)) ∨ r = (0, false)) h2 ?_⟩
  unfold impl_EvenTempo.f
  refine tbind (implBetween_tot l a b hl) (fun y hy => ?_)
  rcases hy with ⟨h, rfl⟩ | ⟨h, rfl⟩
  · refine tpos rfl ?_
    by_cases e : a = b
    · exact tpos e (tsome (.inr rfl))
    · refine tneg e ?_
      have h3 := h.2
      rw [wrap64_id (x := b - a) (by omega) (by omega)]
      exact tneg (by omega) (tsome (.inl ⟨h, e, rfl⟩))
  · exact tneg (by simp) (tsome (.inr rfl))
def PaperR (l : List S41) (s w : Int) (r : Int × Int × Bool) : Prop := (∃ q, TeGood l ∧ (0 ≤ s ∧ s ≤ 2000) ∧ (1 ≤ w ∧ w ≤ 100) ∧ TeAt l s q ∧ r = ((1000000 * w) / (Nat.gcd (1000000 * w).toNat (rd_T41 l q).f1.toNat : Int), (rd_T41 l q).f1 / (Nat.gcd (1000000 * w).toNat (rd_T41 l q).f1.toNat : Int), true)) ∨ r = (0, 0, false)
theorem paper_post (l : List S41) (s w : Int) (hl : l.length ≤ 1048576) : ∃ r, Tot (fun k => spec_PaperSpeed.f k l s w) (fun y => y = r) ∧ Tot (fun k => impl_PaperSpeed.f k l s w) (fun y => y = r) ∧ PaperR l s w r := by
  obtain ⟨r, h1, h2⟩ := paperSpeed_agree l s w hl
  refine ⟨r, h1, h2, tconf (Q := fun r => PaperR l s w r) h2 ?_⟩
  have iF : Tot (fun k => impl_PaperSpeed.j0 k l s w true) (fun r => PaperR l s w r) := by
    refine tstep ?_
    simp only [impl_PaperSpeed.j0, if_true]
    exact tsome (.inr rfl)
  unfold impl_PaperSpeed.f
  refine tbind (areTempos_tot l hl) (fun b hb => ?_)
  simp only [isTempoStep_eq, Option.bind_some, decide_eq_true_eq]
  refine tite (fun c => tite (fun c2 => tite (fun c3 => iF) (fun c3 => ?_)) (fun c2 => iF)) (fun c => iF)
  by_cases c4 : w > 100
  · rw [decide_eq_true c4]; exact iF
  · rw [decide_eq_false c4]
    have hg := hb.1 c
    obtain ⟨r0, hr0, hi0⟩ := teAt_tot l hg s c2.1
    have hc := (hg.1 r0 hi0.1 hi0.2.1).1
    unfold OkChange at hc
    refine tstep ?_
    simp only [impl_PaperSpeed.j0]
    refine tneg (by simp) ?_
    refine tbind (implTempoAt_tot l hg s r0 hi0) (fun _ e => ?_); subst e
    rw [wrap64_id (x := w * 1000000) (by omega) (by omega), Int.mul_comm w 1000000]
    refine tbind (lowest_tot (1000000 * w) _ (by omega) (by omega) (by omega) (by omega)) (fun _ e => ?_); subst e
    exact tsome (.inl ⟨r0, hg, c2, ⟨by omega, by omega⟩, hi0, rfl⟩)
theorem scE100 : scE 100 = id := funext (fun x => by
  obtain ⟨a, b⟩ := x
  show (⟨a, (b * 100 + 50) / 100⟩ : S41) = ⟨a, b⟩
  rw [show (b * 100 + 50) / 100 = b by omega])
theorem scale_post (l : List S41) (p : Int) (hl : l.length ≤ 1048576) : ∃ r, Tot (fun k => spec_ScaleTempos.f k l p) (fun y => y = r) ∧ Tot (fun k => impl_ScaleTempos.f k l p) (fun y => y = r) ∧ r.1.length ≤ 1048576 ∧ (r.2 = true → p = 100 → r.1 = l) := by
  obtain ⟨r, h1, h2, h3⟩ := scaleTempos_agree l p hl
  refine ⟨r, h1, h2, h3, tconf (Q := fun r => r.2 = true → p = 100 → r.1 = l) h1 ?_⟩
  have sF : Tot (fun k => spec_ScaleTempos.j0 k l p true) (fun r => r.2 = true → p = 100 → r.1 = l) := by
    refine tstep ?_
    simp only [spec_ScaleTempos.j0, if_true]
    exact tsome (fun h => by cases h)
  unfold spec_ScaleTempos.f
  refine tbind (teGood_tot l hl) (fun b h => tite (fun c => ?_) (fun c => sF))
  simp only [l1In_eq, Option.bind_some]
  by_cases hp : 1 ≤ p ∧ p ≤ 400
  · rw [decide_eq_true hp, Bool.not_true]
    refine tstep ?_
    simp only [spec_ScaleTempos.j0]
    refine tneg (by simp) (tmono (specSc_tot l (h.1 c) p hp.1 hp.2) (fun r hr => ?_))
    intro h2 e
    subst e
    rcases hr with ⟨_, rfl⟩ | ⟨_, rfl⟩
    · show l.map (scE 100) = l
      rw [scE100, List.map_id]
    · cases h2
  · rw [decide_eq_false hp, Bool.not_false]; exact sF

theorem draw_AreTempos (l : List Int) (hl : Bytes l) : Tot (fun k => spec_DrawAreTempos.f k l) (fun r => r.length ≤ 21) := by
  unfold spec_DrawAreTempos.f
  rw [newCur_eq]
  exact tlet (tbind (draw_anyTempos l hl 0 0 0 st0 (by omega)) (fun t ht => tsome ht.1))
theorem draw_SimpleTempos (l : List Int) (hl : Bytes l) : Tot (fun k => spec_DrawSimpleTempos.f k l) (fun r => r.length ≤ 21) := by
  unfold spec_DrawSimpleTempos.f
  exact tbind (draw_AreTempos l hl) (fun t ht => tsome ht)
theorem draw_EvenTempo (l : List Int) (hl : Bytes l) : Tot (fun k => spec_DrawEvenTempo.f k l) (fun r => r.1.length ≤ 21) := by
  unfold spec_DrawEvenTempo.f
  exact tbind (draw_TimeBetween l hl) (fun t ht => tsome ht)
theorem draw_ScaleTempos (l : List Int) (hl : Bytes l) : Tot (fun k => spec_DrawScaleTempos.f k l) (fun r => r.1.length ≤ 21) := by
  unfold spec_DrawScaleTempos.f
  rw [newCur_eq]; refine tlet (tbind (draw_anyTempos l hl 0 0 0 st0 (by omega)) (fun t ht => ?_))
  obtain ⟨v1, a1, s1, e1, _, g1⟩ := draw_among l hl (0 + 300) t.2.1 t.2.2 [0, 401] (by simp) ht.2 (by omega)
  dsimp only
  rw [e1]; refine tlet ?_
  obtain ⟨v2, a2, s2, e2, _, g2⟩ := draw_among l hl (0 + 302) a1 s1 [1, 50, 90, 100, 100, 150, 400, v1] (by simp) g1 (by omega)
  dsimp only
  rw [e2]; exact tlet (tsome ht.1)
theorem draw_PaperSpeed (l : List Int) (hl : Bytes l) : Tot (fun k => spec_DrawPaperSpeed.f k l) (fun r => r.1.length ≤ 21) := by
  unfold spec_DrawPaperSpeed.f
  rw [newCur_eq]; refine tlet (tbind (draw_anyTempos l hl 0 0 0 st0 (by omega)) (fun t ht => ?_))
  obtain ⟨v0, a0, s0, e0, g0⟩ := draw_piece l hl (0 + 300) t.2.1 t.2.2 ht.2 (by omega)
  dsimp only
  rw [e0]; refine tlet ?_
  obtain ⟨v1, a1, s1, e1, _, g1⟩ := draw_among l hl (0 + 308) a0 s0 [0, 101] (by simp) g0 (by omega)
  dsimp only
  rw [e1]; refine tlet ?_
  obtain ⟨v2, a2, s2, e2, _, g2⟩ := draw_among l hl (0 + 310) a1 s1 [1, 5, 10, 25, 100, v1] (by simp) g1 (by omega)
  dsimp only
  rw [e2]; exact tlet (tsome ht.1)
theorem draw_DropTempo (l : List Int) (hl : Bytes l) : Tot (fun k => spec_DrawDropTempo.f k l) (fun r => r.1.length ≤ 21) := by
  unfold spec_DrawDropTempo.f
  rw [newCur_eq]; refine tlet (tbind (draw_anyTempos l hl 0 0 0 st0 (by omega)) (fun t ht => ?_))
  obtain ⟨v1, a1, s1, e1, _, g1⟩ := draw_pick l hl (0 + 300) t.2.1 t.2.2 (wrap64 ((t.1.length : Int) + 1)) ht.2 (by omega)
  dsimp only
  rw [e1]; refine tlet ?_
  obtain ⟨v2, a2, s2, e2, _, g2⟩ := draw_pick l hl (0 + 302) a1 s1 24 g1 (by omega)
  dsimp only
  rw [e2]; exact tlet (tsome ht.1)

theorem simp_len (l : List S41) : ∀ n : Nat, (simpN l n).length ≤ n
  | 0 => Nat.le_refl _
  | n + 1 => by
    have ih := simp_len l n
    unfold simpN
    split
    · rw [List.length_append, List.length_singleton]; omega
    · omega
theorem specSimpleV (l : List S41) (hl : l.length ≤ 1048576) : Tot (fun k => spec_SimpleTempos.l0 k l [] l (l.length : Int) 0) (fun r => r = (simpN l l.length, true)) := by
  refine trec (σ := List S41 × Int) (fun s k => spec_SimpleTempos.l0 k l s.1 l (l.length : Int) s.2) (fun s => ((l.length : Int) - s.2).toNat) (fun s => 0 ≤ s.2 ∧ s.2 ≤ (l.length : Int) ∧ s.1 = simpN l s.2.toNat) (fun _ r => r = (simpN l l.length, true)) ?_ ([], 0) ⟨Int.le_refl _, by dsimp only; omega, rfl⟩
  rintro ⟨o, i⟩ ⟨h0, h1, h2⟩ ih
  dsimp only at h0 h1 h2
  obtain ⟨n, rfl⟩ := Int.eq_ofNat_of_zero_le h0
  rw [Int.toNat_natCast] at h2
  subst h2
  have hlen := simp_len l n
  have up : simpN l ((n : Int) + 1).toNat = if n = 0 ∨ (rd_T41 l (n : Int)).f1 ≠ (rd_T41 l ((n : Int) - 1)).f1 then simpN l n ++ [rd_T41 l (n : Int)] else simpN l n := by
    rw [show ((n : Int) + 1).toNat = n + 1 by omega]; rfl
  simp only [spec_SimpleTempos.l0, wrap64_id (x := (n : Int) + 1) (by omega) (by omega), wrap64_id (x := (n : Int) - 1) (by omega) (by omega)]
  refine tite (fun c => ?_) (fun c => ?_)
  · refine tpos h0 (tpos c ?_)
    refine tite (fun c1 => ?_) (fun c1 => ?_)
    · refine tpos (by omega) ?_
      exact ih (simpN l n ++ [rd_T41 l (n : Int)], (n : Int) + 1) ⟨by dsimp only; omega, by dsimp only; omega, by dsimp only; rw [up, if_pos (Or.inl (by omega))]⟩ (by dsimp only; omega)
    · refine tpos (by omega) (tpos (by omega) ?_)
      refine tite (fun c2 => ?_) (fun c2 => tpos (by omega) ?_)
      · exact ih (simpN l n, (n : Int) + 1) ⟨by dsimp only; omega, by dsimp only; omega, by dsimp only; rw [up, if_neg (fun h => h.elim (by omega) (fun h => h c2))]⟩ (by dsimp only; omega)
      · exact ih (simpN l n ++ [rd_T41 l (n : Int)], (n : Int) + 1) ⟨by dsimp only; omega, by dsimp only; omega, by dsimp only; rw [up, if_pos (Or.inr c2)]⟩ (by dsimp only; omega)
  · obtain rfl : n = l.length := by omega
    exact tsome rfl
def SimpleR (l : List S41) (r : List S41 × Bool) : Prop := (TeGood l ∧ r = (simpN l l.length, true)) ∨ (¬ TeGood l ∧ r = ([], false))
theorem simple_post (l : List S41) (hl : l.length ≤ 1048576) : ∃ r, SimpleR l r ∧ Tot (fun k => spec_SimpleTempos.f k l) (fun y => y = r) ∧ Tot (fun k => impl_SimpleTempos.f k l) (fun y => y = r) ∧ r.1.length ≤ 1048576 := by
  obtain ⟨r, h1, h2, h3⟩ := simpleTempos_agree l hl
  refine ⟨r, tconf (Q := fun r => SimpleR l r) h1 ?_, h1, h2, h3⟩
  unfold spec_SimpleTempos.f
  exact tbind (teGood_tot l hl) (fun b hb => tite (fun c => tmono (specSimpleV l hl) (fun y hy => .inl ⟨hb.1 c, hy⟩)) (fun c => tsome (.inr ⟨fun h => c (hb.2 h), rfl⟩)))


theorem fcL (l : List S41) (hl : l.length ≤ 1048576) (hg : TeGood l) : Tot (fun k => laws_FnTempoChanges.l0 k l (simpN l l.length) (simpN l l.length) ([0, 1, 50, 1000, 2000] : List Int) (5 : Int) 0) (fun b => b = true) := by
  have hI := simp_inv' l hg
  have hg2 := simp_good l hg
  have hl2 : (simpN l l.length).length ≤ 1048576 := by have := hI.2.1; omega
  refine trec (σ := Int) (fun i k => laws_FnTempoChanges.l0 k l (simpN l l.length) (simpN l l.length) ([0, 1, 50, 1000, 2000] : List Int) (5 : Int) i) (fun i => (5 - i).toNat) (fun i => 0 ≤ i ∧ i ≤ 5) (fun _ b => b = true) ?_ 0 ⟨Int.le_refl _, by decide⟩
  rintro i ⟨h0, h1⟩ ih
  simp only [laws_FnTempoChanges.l0, wrap64_id (x := i + 1) (by omega) (by omega)]
  refine tite (fun c => ?_) (fun c => ?_)
  · have hr : ∃ n : Nat, rd ([0, 1, 50, 1000, 2000] : List Int) i = (n : Int) ∧ n ≤ 2000 := by
      have : i = 0 ∨ i = 1 ∨ i = 2 ∨ i = 3 ∨ i = 4 := by omega
      rcases this with rfl | rfl | rfl | rfl | rfl
      · exact ⟨0, rfl, by omega⟩
      · exact ⟨1, rfl, by omega⟩
      · exact ⟨50, rfl, by omega⟩
      · exact ⟨1000, rfl, by omega⟩
      · exact ⟨2000, rfl, by omega⟩
    obtain ⟨n, en, hn⟩ := hr
    have a1 := timeOf_good l (n : Int) hl hg ⟨by omega, by omega⟩
    have a2 := timeOf_good _ (n : Int) hl2 hg2 ⟨by omega, by omega⟩
    rw [simp_tm l hg n] at a2
    rw [en]
    refine tpos h0 (tpos (show i < ((([0, 1, 50, 1000, 2000] : List Int).length : Nat) : Int) from c) ?_)
    refine tbind a2.2 (fun _ e => ?_); subst e
    refine tbind a1.2 (fun _ e => ?_); subst e
    refine tbind a1.1 (fun _ e => ?_); subst e
    exact tpos rfl (tpos rfl (tpos rfl (tpos rfl (tpos rfl (ih (i + 1) ⟨by omega, by omega⟩ (by (try dsimp only); omega))))))
  · obtain ⟨r, hr, _, hi2, _⟩ := simple_post (simpN l l.length) hl2
    rcases hr with ⟨_, rfl⟩ | ⟨h, _⟩
    · refine tbind hi2 (fun _ e => ?_); subst e
      refine tpos rfl ?_
      dsimp only
      rw [simp_idem l hg]
      refine tbind (qTempos_tot _ hl2) (fun _ e => ?_); subst e
      have := hI.2.1
      exact tpos rfl (tsome (decide_eq_true (by omega)))
    · exact absurd hg2 h
theorem fc4 (l : List S41) (hl : l.length ≤ 1048576) (r : List S41 × Bool) (hr : SimpleR l r) : Tot (fun k => laws_FnTempoChanges.j4 k l r.1 r.2 r.1) (fun b => b = true) := by
  refine tstep ?_
  simp only [laws_FnTempoChanges.j4]
  rcases hr with ⟨hg, rfl⟩ | ⟨_, rfl⟩
  · exact tpos rfl (tlet (fcL l hl hg))
  · exact tneg (by simp) (tsome rfl)
theorem fc3 (l : List S41) (hl : l.length ≤ 1048576) (r : List S41 × Bool) (hr : SimpleR l r)
    (g : List S41) (lg : g.length ≤ 1048576) (s w : Int) (rP : Int × Int × Bool) (hP : PaperR g s w rP) : Tot (fun k => laws_FnTempoChanges.j3 k l r.1 r.2 r.1 g s w rP.2.2 rP.1 rP.2.1) (fun b => b = true) := by
  have J := fc4 l hl r hr
  refine tstep ?_
  simp only [laws_FnTempoChanges.j3]
  rcases hP with ⟨q, hg, hs, hw, hq, rfl⟩ | rfl
  · refine tpos rfl ?_
    have ht := tempoAt_good g s q lg hg hs hq
    have hc := (hg.1 q hq.1 hq.2.1).1
    unfold OkChange at hc
    obtain ⟨p1, p2, p3, p4, p5⟩ := paper_frac (1000000 * w) (rd_T41 g q).f1 (by omega) (by omega)
    refine tbind ht.2 (fun _ e => ?_); subst e
    refine tpos rfl (tneg (fun h => Int.not_le.2 h p1) (tpos ?_ J))
    dsimp only
    rw [wrap64_id (x := 1000000 * w) (by omega) (by omega), p3]
  · exact tneg (by simp) J
theorem fc2 (l : List S41) (hl : l.length ≤ 1048576) (r : List S41 × Bool) (hr : SimpleR l r)
    (g : List S41) (lg : g.length ≤ 1048576) (s w : Int) (rP : Int × Int × Bool) (hP : PaperR g s w rP)
    (d : List S41) (ld : d.length ≤ 1048576) (i : Int) (rD : List S41 × Bool) (hD : (∃ m : Nat, i = (m : Int) ∧ TeGood d ∧ 1 ≤ m ∧ m < d.length ∧ rD = (d.eraseIdx m, true)) ∨ rD = ([], false)) :
    Tot (fun k => laws_FnTempoChanges.j2 k l r.1 r.2 r.1 d i rD.1 rD.2 g s w rP.2.2 rP.1 rP.2.1) (fun b => b = true) := by
  have J := fc3 l hl r hr g lg s w rP hP
  refine tstep ?_
  simp only [laws_FnTempoChanges.j2]
  rcases hD with ⟨m, rfl, hg, h1, h2, rfl⟩ | rfl
  · refine tpos rfl (tpos (by omega) (tpos (by omega) ?_))
    refine tbind (add_back d ld hg m h1 h2) (fun _ e => ?_); subst e
    refine tpos rfl (tbind (qTempos_tot d ld) (fun _ e => ?_)); subst e
    exact tpos rfl J
  · exact tneg (by simp) J
theorem fc1 (l : List S41) (hl : l.length ≤ 1048576) (r : List S41 × Bool) (hr : SimpleR l r)
    (g : List S41) (lg : g.length ≤ 1048576) (s w : Int) (rP : Int × Int × Bool) (hP : PaperR g s w rP)
    (d : List S41) (ld : d.length ≤ 1048576) (i : Int) (rD : List S41 × Bool) (hD : (∃ m : Nat, i = (m : Int) ∧ TeGood d ∧ 1 ≤ m ∧ m < d.length ∧ rD = (d.eraseIdx m, true)) ∨ rD = ([], false))
    (c : List S41) (lc : c.length ≤ 1048576) (a b : Int) (rE : Int × Bool) (hE : (TeTwo c a b ∧ a ≠ b ∧ rE = (wrap64 (Int.tdiv (tm c b - tm c a) (b - a)), true)) ∨ rE = (0, false)) :
    Tot (fun k => laws_FnTempoChanges.j1 k l r.1 r.2 r.1 c a b rE.2 rE.1 d i rD.1 rD.2 g s w rP.2.2 rP.1 rP.2.1 false) (fun b => b = true) := by
  have J := fc2 l hl r hr g lg s w rP hP d ld i rD hD
  refine tstep ?_
  simp only [laws_FnTempoChanges.j1]
  refine tneg (by decide) ?_
  rcases hE with ⟨hT, hne, rfl⟩ | rfl
  · refine tpos rfl ?_
    refine tbind (implBetween_tot c a b lc) (fun rB hB => ?_)
    rcases hB with ⟨_, rfl⟩ | ⟨h, _⟩
    · have b1 := tm_bounds c hT.1 a hT.2.1.2
      have b2 := tm_bounds c hT.1 b hT.2.2.1.2
      have hm := tm_mono c hT.1 a b hT.2.2.2
      have h3 := hT.2
      obtain ⟨e1, e2, e3, e4, e5, e6, e7⟩ := even_bounds (tm c b - tm c a) (b - a) (by omega) (by omega) (by omega) (by omega)
      refine tpos rfl ?_
      dsimp only
      rw [e1, wrap64_id (x := b - a) (by omega) (by omega)]
      generalize (tm c b - tm c a) / (b - a) = x at e2 e3 e4 e5 e6 e7 ⊢
      rw [wrap64_id (x := x + 1) (by omega) (by omega)]
      generalize x * (b - a) = y at e4 e7 ⊢
      generalize (x + 1) * (b - a) = z at e5 e6 ⊢
      rw [wrap64_id (x := y) (by omega) (by omega), wrap64_id (x := z) (by omega) (by omega)]
      exact tneg (by omega) (tneg (by omega) J)
    · exact absurd hT h
  · exact tneg (by simp) J
theorem fc0 (l : List S41) (hl : l.length ≤ 1048576) (r : List S41 × Bool) (hr : SimpleR l r)
    (g : List S41) (lg : g.length ≤ 1048576) (s w : Int) (rP : Int × Int × Bool) (hP : PaperR g s w rP)
    (d : List S41) (ld : d.length ≤ 1048576) (i : Int) (rD : List S41 × Bool) (hD : (∃ m : Nat, i = (m : Int) ∧ TeGood d ∧ 1 ≤ m ∧ m < d.length ∧ rD = (d.eraseIdx m, true)) ∨ rD = ([], false))
    (c : List S41) (lc : c.length ≤ 1048576) (a b : Int) (rE : Int × Bool) (hE : (TeTwo c a b ∧ a ≠ b ∧ rE = (wrap64 (Int.tdiv (tm c b - tm c a) (b - a)), true)) ∨ rE = (0, false))
    (u : List S41) (lu : u.length ≤ 1048576) (p : Int) (rS : List S41 × Bool) (hS : rS.2 = true → p = 100 → rS.1 = u) :
    Tot (fun k => laws_FnTempoChanges.j0 k l r.1 r.2 r.1 u p rS.2 rS.1 c a b rE.2 rE.1 d i rD.1 rD.2 g s w rP.2.2 rP.1 rP.2.1 false) (fun b => b = true) := by
  have J := fc1 l hl r hr g lg s w rP hP d ld i rD hD c lc a b rE hE
  refine tstep ?_
  simp only [laws_FnTempoChanges.j0]
  refine tneg (by decide) (tite (fun c1 => tite (fun c2 => ?_) (fun _ => J)) (fun _ => J))
  rw [hS c1 c2]
  refine tbind (qTempos_tot u lu) (fun _ e => ?_); subst e
  exact J
theorem fcE (l : List S41) (r : List S41 × Bool) (hr : SimpleR l r) (bb : Bool) (hbb : (bb = true) ↔ TeGood l) : (bb != r.2) = false := by
  rcases hr with ⟨hg, rfl⟩ | ⟨hn, rfl⟩
  · rw [hbb.2 hg]; rfl
  · cases bb with
    | false => rfl
    | true => exact absurd (hbb.1 rfl) hn

theorem FnTempoChanges : laws_FnTempoChanges.Pure := by
  intro l0 l1 hm0 hb0 hw0 hm1 hb1 hw1
  refine rounds ?_
  unfold laws_FnTempoChanges.f
  have wfb : ∀ x : Int, (Lit.int .u8 x).wf = true → 0 ≤ x ∧ x ≤ 255 := fun x h => by
    have h2 : (decide (IntKind.u8.min ≤ x) && decide (x ≤ IntKind.u8.max)) = true := h
    rw [Bool.and_eq_true, decide_eq_true_eq, decide_eq_true_eq] at h2
    exact h2
  refine tite (fun _ => tsome rfl) (fun hsz => ?_)
  have hsum : l0.length + l1.length ≤ 1048576 := by
    rw [wrap64_id (by omega) (by omega)] at hsz
    omega
  have B0 : Bytes l0 := ⟨fun x hx => wfb x (hw0 x hx), by omega⟩
  have B1 : Bytes l1 := ⟨fun x hx => wfb x (hw1 x hx), by omega⟩
  refine tbind (draw_SimpleTempos l0 B0) (fun l hA => ?_)
  obtain ⟨r, hr, s1, i1, len1⟩ := simple_post l (by omega)
  refine tbind i1 (fun _ e => ?_); subst e
  refine tbind s1 (fun _ e => ?_); subst e
  refine tbind (draw_ScaleTempos l1 B1) (fun A hA2 => ?_)
  obtain ⟨u, p⟩ := A
  dsimp only at hA2
  obtain ⟨rS, s2, i2, len2, hS⟩ := scale_post u p (by omega)
  refine tbind i2 (fun _ e => ?_); subst e
  refine tbind s2 (fun _ e => ?_); subst e
  refine tbind (draw_EvenTempo l1 B1) (fun A hA3 => ?_)
  obtain ⟨c, a, b⟩ := A
  dsimp only at hA3
  obtain ⟨rE, s3, i3, hE⟩ := even_post c a b (by omega)
  refine tbind i3 (fun _ e => ?_); subst e
  refine tbind s3 (fun _ e => ?_); subst e
  refine tbind (draw_DropTempo l1 B1) (fun A hA4 => ?_)
  obtain ⟨d, i⟩ := A
  dsimp only at hA4
  obtain ⟨rD, s4, i4, len4, hD⟩ := drop_post d i (by omega)
  refine tbind i4 (fun _ e => ?_); subst e
  refine tbind s4 (fun _ e => ?_); subst e
  refine tbind (draw_PaperSpeed l1 B1) (fun A hA5 => ?_)
  obtain ⟨g, st, w⟩ := A
  dsimp only at hA5
  obtain ⟨rP, s5, i5, hP⟩ := paper_post g st w (by omega)
  refine tbind i5 (fun _ e => ?_); subst e
  refine tbind s5 (fun _ e => ?_); subst e
  refine tbind (draw_TempoAt l1 B1) (fun A hA6 => ?_)
  obtain ⟨h, at_⟩ := A
  dsimp only at hA6
  obtain ⟨rT, s6, i6⟩ := tempoAt_agree h at_ (by omega)
  refine tbind i6 (fun _ e => ?_); subst e
  refine tbind s6 (fun _ e => ?_); subst e
  refine tneg (by simp) (tbind (qTempos_tot _ len1) (fun _ e => ?_)); subst e
  refine tpos rfl (tneg (by simp) (tbind (qTempos_tot _ len2) (fun _ e => ?_))); subst e
  refine tpos rfl (tneg (by simp) (tpos rfl (tneg (by simp) (tbind (qTempos_tot _ len4) (fun _ e => ?_))))); subst e
  refine tpos rfl (tneg (by simp) (tpos rfl (tpos rfl (tneg (by simp) (tpos rfl (tbind (areTempos_tot l (by omega)) (fun bb hbb => ?_)))))))
  rw [fcE l _ hr bb hbb]
  exact fc0 l (by omega) _ hr g (by omega) st w _ hP d (by omega) i _ hD c (by omega) a b _ hE u (by omega) p _ hS
end Go.Proofs.Ytgeipgflhjakjaa.Pure
