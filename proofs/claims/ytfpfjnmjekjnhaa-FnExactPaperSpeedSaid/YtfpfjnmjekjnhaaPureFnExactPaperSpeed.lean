/- The plain side of the law FnExactPaperSpeed: lists and numbers alone. -/
import Derived.Test.YtfpfjnmjekjnhaaPFnExactPaperSpeedx5
import Derived.Test.YtfpfjnmjekjnhaaGlue
import Derived.Test.YtfpfjnmjekjnhaaTot
set_option linter.unusedVariables false
set_option linter.unusedSimpArgs false
namespace Go.Proofs.Ytfpfjnmjekjnhaa.Pure
open Go.RowKit Go.Proofs.Ytfpfjnmjekjnhaa.PFnExactPaperSpeed Go.Proofs.YtfpfjnmjekjnhaaW.PrintWords Go.Proofs.YtfpfjnmjekjnhaaW.PrintMore Go.Proofs.Ytfpfjnmjekjnhaa.Tot

theorem l1In_eq (a b c : Int) : spec_l1In.f a b c = some (decide (b ≤ a ∧ a ≤ c)) := by
  unfold spec_l1In.f
  by_cases h : b ≤ a <;> simp [h]

def cvChange (x : S57) : S55 := ⟨x.f0, x.f1⟩
theorem toChangeS (l : List S57) (hl : l.length ≤ 1048576) : Tot (fun k => laws_toChangeS.f k l) (fun r => r = l.map cvChange) := by
  unfold laws_toChangeS.f
  refine tpos (by omega) (tpos (by omega) ?_)
  have key := trec (σ := List S55 × Int) (fun s k => laws_toChangeS.l0 k l s.1 s.2) (fun s => ((l.length : Int) - s.2).toNat)
    (fun s => 0 ≤ s.2 ∧ s.2 ≤ (l.length : Int) ∧ s.1.length = l.length ∧ ∀ j : Int, 0 ≤ j → j < s.2 → s.1.getD j.toNat z55 = cvChange (l.getD j.toNat z57)) (fun _ r => r = l.map cvChange) ?_
  · exact key (List.replicate (l.length : Int).toNat z55, 0) ⟨Int.le_refl _, by dsimp only; omega, by simp, fun j h0 h1 => by dsimp only at h1; omega⟩
  · rintro ⟨ys, i⟩ ⟨h0, h1, h2, h3⟩ ih
    dsimp only at h0 h1 h2 h3
    simp only [laws_toChangeS.l0, laws_toChange.f, Option.bind_some]
    refine tite (fun c => ?_) (fun c => ?_)
    · refine tpos h0 (tpos (by omega) ?_)
      rw [wrap64_id (by omega) (by omega)]
      refine ih (_, i + 1) ⟨by dsimp only; omega, by dsimp only; omega, by simp [h2], ?_⟩ (by dsimp only; omega)
      intro j hj0 hj1
      dsimp only at hj1 ⊢
      by_cases e : j = i
      · subst e; rw [ld_set_self _ _ (by omega) hj0]; rfl
      · rw [ld_set_ne _ _ _ h0 hj0 (by omega)]; exact h3 j hj0 (by omega)
    · exact tsome (write_end h2 (fun j a b => h3 j a (by omega)))

theorem eqChangeS (l : List S55) (hl : l.length ≤ 1048576) : Tot (fun k => laws_eqChangeS.f k l l) (fun r => r = true) := by
  unfold laws_eqChangeS.f
  refine tpos rfl ?_
  refine trec (σ := Int) (fun i k => laws_eqChangeS.l0 k l l i) (fun i => ((l.length : Int) - i).toNat) (fun i => 0 ≤ i ∧ i ≤ (l.length : Int)) (fun _ r => r = true) ?_ 0 ⟨Int.le_refl _, by omega⟩
  rintro i ⟨h0, h1⟩ ih
  simp only [laws_eqChangeS.l0, laws_eqChange.f, if_true, Option.bind_some]
  refine tite (fun c => ?_) (fun c => tsome rfl)
  refine tpos h0 (tpos (by omega) ?_)
  rw [wrap64_id (by omega) (by omega)]
  exact ih (i + 1) ⟨by omega, by omega⟩ (by (try dsimp only); omega)

theorem szChangeS (l : List S57) (n : Int) (hn : 0 ≤ n) (hn2 : n ≤ 1048576) (hl : l.length ≤ 9223372036854775807) : laws_szChangeS.f l n = some (if n < l.length then -1 else n - l.length) := by
  unfold laws_szChangeS.f
  simp (disch := omega) only [wrap64_id]
  by_cases h : n < l.length
  · rw [if_pos (by omega), if_pos h]
  · rw [if_neg (by omega), if_neg h]

def OkChange (x : S55) : Prop := 0 ≤ x.f0 ∧ x.f0 ≤ 2000 ∧ 1000 ≤ x.f1 ∧ x.f1 ≤ 1000000
theorem teChange_eq (a b : Int) : spec_teChange.f a b = some (decide (0 ≤ a ∧ a ≤ 2000 ∧ 1000 ≤ b ∧ b ≤ 1000000)) := by
  unfold spec_teChange.f
  simp only [l1In_eq, Option.bind_some, decide_eq_true_eq]
  split
  · congr 1; rw [Bool.eq_iff_iff]; simp only [decide_eq_true_eq]; omega
  · congr 1; rw [Bool.eq_iff_iff]; simp only [decide_eq_true_eq]; simp; omega
theorem isChange_eq (a b : Int) : impl_isChange.f a b = some (decide (0 ≤ a ∧ a ≤ 2000 ∧ 1000 ≤ b ∧ b ≤ 1000000)) := by
  unfold impl_isChange.f
  by_cases h1 : 0 ≤ a <;> by_cases h2 : a ≤ 2000 <;> by_cases h3 : 1000 ≤ b <;> simp [h1, h2, h3] <;> omega
def TeC (l : List S55) (j : Int) : Prop := OkChange (rd_T55 l j) ∧ (j = 0 → (rd_T55 l j).f0 = 0) ∧ (0 < j → (rd_T55 l (j - 1)).f0 < (rd_T55 l j).f0)
def TeGood (l : List S55) : Prop := (∀ j : Int, 0 ≤ j → j < (l.length : Int) → TeC l j) ∧ (1 ≤ (l.length : Int) ∧ (l.length : Int) ≤ 20)
theorem teGood_tot (l : List S55) (hl : l.length ≤ 1048576) : Tot (fun k => spec_teGood.f k l) (fun b => (b = true) ↔ TeGood l) := by
  unfold spec_teGood.f
  refine trec (σ := Int) (fun i k => spec_teGood.l0 k l l (l.length : Int) i) (fun i => ((l.length : Int) - i).toNat) (fun i => 0 ≤ i ∧ i ≤ (l.length : Int))
    (fun i b => (b = true) ↔ ((∀ j : Int, i ≤ j → j < (l.length : Int) → TeC l j) ∧ (1 ≤ (l.length : Int) ∧ (l.length : Int) ≤ 20))) ?_ 0 ⟨Int.le_refl _, by omega⟩
  rintro i ⟨h0, h1⟩ ih
  simp only [spec_teGood.l0, teChange_eq, l1In_eq, Option.bind_some, decide_eq_true_eq]
  simp only [show wrap64 (i + 1) = i + 1 from wrap64_id (by omega) (by omega), show wrap64 (i - 1) = i - 1 from wrap64_id (by omega) (by omega)]
  repeat' (refine tite (fun _ => ?_) (fun _ => ?_))
  all_goals first
    | (exfalso; omega)
    | exact tsome (all_no (by omega) (by unfold TeC OkChange; omega))
    | exact tmono (ih (i + 1) ⟨by omega, by omega⟩ (by (try dsimp only); omega)) (fun b hb => all_go (by omega) (by unfold TeC OkChange; omega) hb)
    | exact tsome (all_end (by omega) (by simp only [decide_eq_true_eq]))
theorem areTempos_tot (l : List S55) (hl : l.length ≤ 1048576) : Tot (fun k => impl_AreTempos.f k l) (fun b => (b = true) ↔ TeGood l) := by
  have key : 1 ≤ (l.length : Int) → (l.length : Int) ≤ 20 → (rd_T55 l 0).f0 = 0 → Tot (fun k => impl_AreTempos.l0 k l l (l.length : Int) 0) (fun b => (b = true) ↔ TeGood l) := by
    intro g1 g2 g3
    refine tmono (trec (σ := Int) (fun i k => impl_AreTempos.l0 k l l (l.length : Int) i) (fun i => ((l.length : Int) - i).toNat) (fun i => 0 ≤ i ∧ i ≤ (l.length : Int))
      (fun i b => (b = true) ↔ ((∀ j : Int, i ≤ j → j < (l.length : Int) → TeC l j) ∧ True)) ?_ 0 ⟨Int.le_refl _, by omega⟩) (fun b hb => ?_)
    · rintro i ⟨h0, h1⟩ ih
      have g4 : i = 0 → (rd_T55 l i).f0 = 0 := by rintro rfl; exact g3
      simp only [impl_AreTempos.l0, isChange_eq, Option.bind_some, decide_eq_true_eq]
      simp only [show wrap64 (i + 1) = i + 1 from wrap64_id (by omega) (by omega), show wrap64 (i - 1) = i - 1 from wrap64_id (by omega) (by omega)]
      repeat' (refine tite (fun _ => ?_) (fun _ => ?_))
      all_goals first
        | (exfalso; omega)
        | exact tsome (all_no (by omega) (by unfold TeC OkChange; omega))
        | exact tmono (ih (i + 1) ⟨by omega, by omega⟩ (by (try dsimp only); omega)) (fun b hb => all_go (by omega) (by unfold TeC OkChange; omega) hb)
        | exact tsome (all_end (by omega) (by simp))
    · rw [hb]; unfold TeGood
      exact ⟨fun h => ⟨h.1, g1, g2⟩, fun h => ⟨h.1, trivial⟩⟩
  have no : ∀ g : Nat → Option Bool, (∀ k, g k = impl_AreTempos.j0 k l true) → ¬ TeGood l → Tot g (fun b => (b = true) ↔ TeGood l) := by
    intro g hg hn
    refine tstep (tconst (r := false) (fun k => ?_) ⟨fun h => by simp at h, fun h => absurd h hn⟩)
    rw [hg]; simp only [impl_AreTempos.j0, if_true]
  unfold impl_AreTempos.f
  refine tite (fun c => no _ (fun _ => rfl) (fun h => by have := h.2; omega)) (fun c1 => ?_)
  refine tite (fun c => no _ (fun _ => rfl) (fun h => by have := h.2; omega)) (fun c2 => ?_)
  refine tpos (by omega) ?_
  by_cases h : (rd_T55 l 0).f0 = 0
  · rw [show ((rd_T55 l 0).f0 != 0) = false by simp [h]]
    refine tstep ?_
    simp only [impl_AreTempos.j0]
    exact tneg (by simp) (key (by omega) (by omega) h)
  · rw [show ((rd_T55 l 0).f0 != 0) = true by simp [h]]
    exact no _ (fun _ => rfl) (fun g => h ((g.1 0 (by omega) (by omega)).2.1 rfl))

theorem gcd_step (a b : Int) (ha : 0 ≤ a) (hb : 0 < b) : 0 ≤ Int.tmod a b ∧ Int.tmod a b < b ∧ Nat.gcd b.toNat (Int.tmod a b).toNat = Nat.gcd a.toNat b.toNat := by
  obtain ⟨m, rfl⟩ := Int.eq_ofNat_of_zero_le ha
  obtain ⟨n, rfl⟩ := Int.eq_ofNat_of_zero_le (Int.le_of_lt hb)
  have e : Int.tmod (m : Int) (n : Int) = ((m % n : Nat) : Int) := rfl
  rw [e]
  have h1 : m % n < n := Nat.mod_lt _ (by omega)
  refine ⟨by omega, by omega, ?_⟩
  simp only [Int.toNat_natCast]
  rw [Nat.gcd_comm m n, Nat.gcd_rec n m, Nat.gcd_comm]
theorem gcd_tot (a b : Int) (ha : 0 ≤ a) (hb : 0 ≤ b) : Tot (fun k => impl_gcd.f k a b) (fun r => r = (Nat.gcd a.toNat b.toNat : Int)) := by
  unfold impl_gcd.f
  refine trec (σ := Int × Int) (fun s k => impl_gcd.l0 k s.1 s.2) (fun s => s.2.toNat) (fun s => 0 ≤ s.1 ∧ 0 ≤ s.2 ∧ Nat.gcd s.1.toNat s.2.toNat = Nat.gcd a.toNat b.toNat) (fun _ r => r = (Nat.gcd a.toNat b.toNat : Int)) ?_ (a, b) ⟨ha, hb, rfl⟩
  rintro ⟨x, y⟩ ⟨hx, hy, hg⟩ ih
  dsimp only at hx hy hg
  simp only [impl_gcd.l0]
  refine tite (fun c => tsome ?_) (fun c => ?_)
  · subst c
    rw [← hg]
    simp
    omega
  · obtain ⟨h1, h2, h3⟩ := gcd_step x y hx (by omega)
    exact ih (y, Int.tmod x y) ⟨hy, h1, by dsimp only; rw [h3, hg]⟩ (by dsimp only; omega)
theorem gcd_pos (a b : Int) (hb : 0 < b) : 0 < (Nat.gcd a.toNat b.toNat : Int) := by
  have : 0 < Nat.gcd a.toNat b.toNat := Nat.gcd_pos_of_pos_right _ (by omega)
  omega
theorem tdiv_eq (a g : Int) (ha : 0 ≤ a) (ha2 : a ≤ 4611686018427387904) (hg : 0 < g) : wrap64 (Int.tdiv a g) = a / g := by
  rw [Int.tdiv_eq_ediv_of_nonneg ha]
  have h1 : 0 ≤ a / g := Int.ediv_nonneg ha (by omega)
  have h2 : a / g ≤ a := Int.ediv_le_self _ ha
  exact wrap64_id (by omega) (by omega)

theorem lowest_tot (a b : Int) (ha : 0 ≤ a) (ha2 : a ≤ 4611686018427387904) (hb : 0 < b) (hb2 : b ≤ 4611686018427387904) : Tot (fun k => impl_lowest.f k a b) (fun r => r = (a / (Nat.gcd a.toNat b.toNat : Int), b / (Nat.gcd a.toNat b.toNat : Int))) := by
  unfold impl_lowest.f
  refine tbind (gcd_tot a b ha (by omega)) (fun _ e => ?_); subst e
  have hg := gcd_pos a b hb
  refine tneg (by omega) ?_
  exact tsome (by rw [tdiv_eq a _ ha ha2 hg, tdiv_eq b _ (by omega) hb2 hg])

theorem tePart_tot (a b : Int) (ha : 0 ≤ a) (ha2 : a ≤ 4611686018427387904) (hb : 0 < b) (hb2 : b ≤ 4611686018427387904) : Tot (fun k => spec_tePart.f k a b) (fun r => r = (a / (Nat.gcd a.toNat b.toNat : Int), b / (Nat.gcd a.toNat b.toNat : Int))) := by
  unfold spec_tePart.f
  have _h0 := ha
  have hg := gcd_pos a b hb
  refine trec (σ := Int × Int) (fun s k => spec_tePart.l0 k a b s.1 s.2) (fun s => s.2.toNat) (fun s => 0 ≤ s.1 ∧ 0 ≤ s.2 ∧ Nat.gcd s.1.toNat s.2.toNat = Nat.gcd a.toNat b.toNat) (fun _ r => r = (a / (Nat.gcd a.toNat b.toNat : Int), b / (Nat.gcd a.toNat b.toNat : Int))) ?_ (a, b) ⟨ha, by dsimp only; omega, rfl⟩
  rintro ⟨x, y⟩ ⟨hx, hy, hgx⟩ ih
  dsimp only at hx hy hgx
  simp only [spec_tePart.l0]
  refine tite (fun c => ?_) (fun c => ?_)
  · refine tneg (by omega) ?_
    obtain ⟨h1, h2, h3⟩ := gcd_step x y hx c
    exact ih (y, Int.tmod x y) ⟨hy, h1, by dsimp only; rw [h3, hgx]⟩ (by dsimp only; omega)
  · obtain rfl : y = 0 := by omega
    have e : x = (Nat.gcd a.toNat b.toNat : Int) := by
      rw [← hgx]; simp; omega
    refine tneg (by omega) ?_
    exact tsome (by rw [e, tdiv_eq a _ ha ha2 hg, tdiv_eq b _ (by omega) hb2 hg])

theorem te_mono (l : List S55) (hg : TeGood l) (p q : Int) (p0 : 0 ≤ p) (h : p ≤ q) (hq : q < (l.length : Int)) : (rd_T55 l p).f0 ≤ (rd_T55 l q).f0 := by
  have key : ∀ (d : Nat) (j : Int), j = p + d → j < (l.length : Int) → (rd_T55 l p).f0 ≤ (rd_T55 l j).f0 := by
    intro d
    induction d with
    | zero => intro j e _; rw [show j = p by omega]; exact Int.le_refl _
    | succ d ih =>
      intro j e hj
      have h1 := ih (j - 1) (by omega) (by omega)
      have h2 := (hg.1 j (by omega) hj).2.2 (by omega)
      omega
  exact key (q - p).toNat q (by omega) hq
theorem te_lt (l : List S55) (hg : TeGood l) (p q : Int) (p0 : 0 ≤ p) (h : p < q) (hq : q < (l.length : Int)) : (rd_T55 l p).f0 < (rd_T55 l q).f0 := by
  have h1 := te_mono l hg p (q - 1) p0 (by omega) (by omega)
  have h2 := (hg.1 q (by omega) hq).2.2 (by omega)
  omega

def TeAt (l : List S55) (s r : Int) : Prop := 0 ≤ r ∧ r < (l.length : Int) ∧ (rd_T55 l r).f0 ≤ s ∧ (r + 1 < (l.length : Int) → s < (rd_T55 l (r + 1)).f0)
theorem TeAt.det {l : List S55} (hg : TeGood l) {s r r' : Int} (h : TeAt l s r) (h' : TeAt l s r') : r = r' := by
  obtain ⟨a, b, c, d⟩ := h
  obtain ⟨a', b', c', d'⟩ := h'
  rcases Int.lt_trichotomy r r' with g | g | g
  · have := te_mono l hg (r + 1) r' (by omega) (by omega) b'
    have := d (by omega)
    omega
  · exact g
  · have := te_mono l hg (r' + 1) r (by omega) (by omega) b
    have := d' (by omega)
    omega
theorem teAt_tot (l : List S55) (hg : TeGood l) (s : Int) (hs : 0 ≤ s) : Tot (fun k => spec_teAt.f k l s) (fun r => TeAt l s r) := by
  have hn := hg.2
  have hz := (hg.1 0 (by omega) (by omega)).2.1 rfl
  unfold spec_teAt.f
  refine trec (σ := Int) (fun i k => spec_teAt.l0 k l s i) (fun i => ((l.length : Int) - i).toNat) (fun i => 0 ≤ i ∧ i < (l.length : Int) ∧ (rd_T55 l i).f0 ≤ s) (fun _ r => TeAt l s r) ?_ 0 ⟨Int.le_refl _, by omega, by omega⟩
  rintro i ⟨h0, h1, h2⟩ ih
  simp only [spec_teAt.l0, wrap64_id (x := i + 1) (by omega) (by omega)]
  refine tite (fun c => ?_) (fun c => tsome ⟨h0, h1, h2, fun h => absurd h c⟩)
  refine tpos (by omega) ?_
  refine tite (fun c2 => ?_) (fun c2 => tsome ⟨h0, h1, h2, fun h => by omega⟩)
  exact ih (i + 1) ⟨by omega, by omega, c2⟩ (by (try dsimp only); omega)

theorem implTempoAt_tot (l : List S55) (hg : TeGood l) (s r : Int) (hr : TeAt l s r) : Tot (fun k => impl_tempoAt.f k l s) (fun y => y = (rd_T55 l r).f1) := by
  have hn := hg.2
  obtain ⟨r0, r1, r2, r3⟩ := hr
  unfold impl_tempoAt.f
  refine trec (σ := Int × Int) (fun p k => impl_tempoAt.l0 k s p.1 l (l.length : Int) p.2) (fun p => ((l.length : Int) - p.2).toNat) (fun p => 0 ≤ p.2 ∧ p.2 ≤ (l.length : Int) ∧ (r < p.2 → p.1 = (rd_T55 l r).f1)) (fun _ y => y = (rd_T55 l r).f1) ?_ (0, 0) ⟨Int.le_refl _, by dsimp only; omega, fun h => by dsimp only at h; omega⟩
  rintro ⟨acc, i⟩ ⟨h0, h1, h2⟩ ih
  dsimp only at h0 h1 h2
  simp only [impl_tempoAt.l0]
  refine tite (fun c => ?_) (fun c => tsome (h2 (by omega)))
  refine tpos h0 (tpos c ?_)
  rw [wrap64_id (by omega) (by omega)]
  refine tite (fun c2 => ih ((rd_T55 l i).f1, i + 1) ⟨by dsimp only; omega, by dsimp only; omega, fun h => ?_⟩ (by dsimp only; omega)) (fun c2 => ih (acc, i + 1) ⟨by dsimp only; omega, by dsimp only; omega, fun h => ?_⟩ (by dsimp only; omega))
  · dsimp only at h ⊢
    have : ¬ r < i := fun g => by
      have := te_mono l hg (r + 1) i (by omega) (by omega) c
      have := r3 (by omega)
      omega
    rw [show i = r by omega]
  · dsimp only at h ⊢
    by_cases e : i = r
    · subst e; exact absurd r2 c2
    · exact h2 (by omega)

theorem teStep_eq (a : Int) : spec_teStep.f a = some (decide (0 ≤ a ∧ a ≤ 2000)) := by
  unfold spec_teStep.f
  simp only [l1In_eq, Option.bind_some]
theorem isTempoStep_eq (a : Int) : impl_isTempoStep.f a = some (decide (0 ≤ a ∧ a ≤ 2000)) := by
  unfold impl_isTempoStep.f
  by_cases h : 0 ≤ a <;> simp [h]

theorem paperSpeed_agree (l : List S55) (s w : Int) (hl : l.length ≤ 1048576) : ∃ r, Tot (fun k => spec_PaperSpeed.f k l s w) (fun y => y = r) ∧ Tot (fun k => impl_PaperSpeed.f k l s w) (fun y => y = r) := by
  have sF : Tot (fun k => spec_PaperSpeed.j0 k l s w true) (fun y => y = (0, 0, false)) := by
    refine tstep ?_
    simp only [spec_PaperSpeed.j0, if_true]
    exact tsome rfl
  have iF : Tot (fun k => impl_PaperSpeed.j0 k l s w true) (fun y => y = (0, 0, false)) := by
    refine tstep ?_
    simp only [impl_PaperSpeed.j0, if_true]
    exact tsome rfl
  by_cases hg : TeGood l ∧ (0 ≤ s ∧ s ≤ 2000) ∧ 1 ≤ w ∧ w ≤ 100
  · obtain ⟨hg, hs, hw⟩ := hg
    obtain ⟨r0, hr0, hi0⟩ := teAt_tot l hg s hs.1
    have h1 : Tot (fun k => spec_teAt.f k l s) (fun y => y = r0) := ⟨r0, hr0, rfl⟩
    have hc := (hg.1 r0 hi0.1 hi0.2.1).1
    unfold OkChange at hc
    obtain ⟨q, hq⟩ : ∃ q, q = ((1000000 * w) / (Nat.gcd (1000000 * w).toNat (rd_T55 l r0).f1.toNat : Int), (rd_T55 l r0).f1 / (Nat.gcd (1000000 * w).toNat (rd_T55 l r0).f1.toNat : Int)) := ⟨_, rfl⟩
    refine ⟨(q.1, q.2, true), ?_, ?_⟩
    · unfold spec_PaperSpeed.f
      refine tbind (teGood_tot l hl) (fun b hb => tpos (hb.2 hg) ?_)
      simp only [teStep_eq, l1In_eq, Option.bind_some, decide_eq_true_eq]
      refine tpos hs ?_
      rw [decide_eq_true hw, Bool.not_true]
      refine tstep ?_
      simp only [spec_PaperSpeed.j0]
      refine tneg (by simp) ?_
      refine tbind h1 (fun _ e => ?_); subst e
      refine tpos hi0.1 (tpos hi0.2.1 ?_)
      rw [wrap64_id (x := 1000000 * w) (by omega) (by omega)]
      refine tbind (tePart_tot (1000000 * w) _ (by omega) (by omega) (by omega) (by omega)) (fun _ e => ?_); rw [← hq] at e; subst e
      exact tsome rfl
    · unfold impl_PaperSpeed.f
      refine tbind (areTempos_tot l hl) (fun b hb => tpos (hb.2 hg) ?_)
      simp only [isTempoStep_eq, Option.bind_some, decide_eq_true_eq]
      refine tpos hs (tneg (by omega) ?_)
      rw [decide_eq_false (show ¬ w > 100 by omega)]
      refine tstep ?_
      simp only [impl_PaperSpeed.j0]
      refine tneg (by simp) ?_
      refine tbind (implTempoAt_tot l hg s r0 hi0) (fun _ e => ?_); subst e
      rw [wrap64_id (x := w * 1000000) (by omega) (by omega), Int.mul_comm w 1000000]
      refine tbind (lowest_tot (1000000 * w) _ (by omega) (by omega) (by omega) (by omega)) (fun _ e => ?_); rw [← hq] at e; subst e
      exact tsome rfl
  · refine ⟨(0, 0, false), ?_, ?_⟩
    · unfold spec_PaperSpeed.f
      refine tbind (teGood_tot l hl) (fun b hb => tite (fun c => ?_) (fun c => sF))
      simp only [teStep_eq, l1In_eq, Option.bind_some, decide_eq_true_eq]
      refine tite (fun c2 => ?_) (fun c2 => sF)
      rw [decide_eq_false (fun h => hg ⟨hb.1 c, c2, h⟩), Bool.not_false]
      exact sF
    · unfold impl_PaperSpeed.f
      refine tbind (areTempos_tot l hl) (fun b hb => tite (fun c => ?_) (fun c => iF))
      simp only [isTempoStep_eq, Option.bind_some, decide_eq_true_eq]
      refine tite (fun c2 => tite (fun c3 => iF) (fun c3 => ?_)) (fun c2 => iF)
      rw [decide_eq_true (show w > 100 from Classical.byContradiction fun h => hg ⟨hb.1 c, c2, by omega⟩)]
      exact iF


theorem FnExactPaperSpeed (l0 : List (S57)) (a1 : Int) (a2 : Int) (hm0 : l0.length ≤ 9223372036854775807) (hw0 : ∀ y ∈ l0, Glue.wf64 y.f0 ∧ Glue.wf64 y.f1) (w1 : Glue.wf64 a1) (w2 : Glue.wf64 a2) : ∃ k, laws_FnExactPaperSpeed.f k l0 a1 a2 = some true := by
  refine rounds ?_
  unfold laws_FnExactPaperSpeed.f
  rw [szChangeS l0 (1048576 : Int) (by omega) (by omega) hm0]
  simp only [Option.bind_some]
  by_cases hl0 : (1048576 : Int) < (l0.length : Int)
  · simp only [if_pos hl0]; exact tpos (by omega) (tsome rfl)
  simp only [if_neg hl0]
  refine tneg (by omega) ?_
  obtain ⟨r, hS, hI⟩ := paperSpeed_agree (l0.map cvChange) a1 a2 (by simp; omega)
  repeat first
    | exact tsome rfl
    | (refine tbind hS (fun _ e => ?_); subst e)
    | (refine tbind hI (fun _ e => ?_); subst e)
    | (refine tbind (toChangeS l0 (by omega)) (fun _ e => ?_); subst e)
    | (refine tbind (eqChangeS _ (by first | omega | (dsimp only; omega) | (simp; omega) | assumption)) (fun _ e => ?_); subst e)
    | refine tpos rfl ?_
    | refine tneg (by simp) ?_
    | refine tneg (by dsimp only; omega) ?_
    | refine tpos (by dsimp only) ?_
    | (refine tstep ?_; simp only [laws_FnExactPaperSpeed.j0])
end Go.Proofs.Ytfpfjnmjekjnhaa.Pure
