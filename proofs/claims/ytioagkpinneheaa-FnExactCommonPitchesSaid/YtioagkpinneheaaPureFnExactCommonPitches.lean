/- The plain side of the law FnExactCommonPitches: lists and numbers alone. -/
import Derived.Test.YtioagkpinneheaaPFnExactCommonPitchesx4
import Derived.Test.YtioagkpinneheaaGlue
import Derived.Test.YtioagkpinneheaaTot
set_option linter.unusedVariables false
set_option linter.unusedSimpArgs false
namespace Go.Proofs.Ytioagkpinneheaa.Pure
open Go.RowKit Go.Proofs.Ytioagkpinneheaa.PFnExactCommonPitches Go.Proofs.YtioagkpinneheaaW.PrintWords Go.Proofs.YtioagkpinneheaaW.PrintMore Go.Proofs.Ytioagkpinneheaa.Tot

theorem l1In_eq (a b c : Int) : spec_l1In.f a b c = some (decide (b ≤ a ∧ a ≤ c)) := by
  unfold spec_l1In.f
  by_cases h : b ≤ a <;> simp [h]

theorem rd_eq (xs : List Int) (i : Int) : rd xs i = xs.getD i.toNat 0 := rfl
theorem toIntS (l : List Int) (hl : l.length ≤ 1048576) : Tot (fun k => laws_toIntS.f k l) (fun r => r = l) := by
  unfold laws_toIntS.f
  refine tpos (by omega) (tpos (by omega) ?_)
  have key := trec (σ := List Int × Int) (fun s k => laws_toIntS.l0 k l s.1 s.2) (fun s => ((l.length : Int) - s.2).toNat)
    (fun s => 0 ≤ s.2 ∧ s.2 ≤ (l.length : Int) ∧ s.1.length = l.length ∧ ∀ j : Int, 0 ≤ j → j < s.2 → s.1.getD j.toNat 0 = l.getD j.toNat 0) (fun _ r => r = l) ?_
  · exact key (List.replicate (l.length : Int).toNat 0, 0) ⟨Int.le_refl _, by dsimp only; omega, by simp, fun j h0 h1 => by dsimp only at h1; omega⟩
  · rintro ⟨ys, i⟩ ⟨h0, h1, h2, h3⟩ ih
    dsimp only at h0 h1 h2 h3
    simp only [laws_toIntS.l0]
    refine tite (fun c => ?_) (fun c => ?_)
    · refine tpos h0 (tpos (by omega) ?_)
      rw [wrap64_id (by omega) (by omega)]
      refine ih (_, i + 1) ⟨by dsimp only; omega, by dsimp only; omega, by simp [h2], ?_⟩ (by dsimp only; omega)
      intro j hj0 hj1
      dsimp only at hj1 ⊢
      by_cases e : j = i
      · subst e; rw [ld_set_self _ _ (by omega) hj0]; rfl
      · rw [ld_set_ne _ _ _ h0 hj0 (by omega)]; exact h3 j hj0 (by omega)
    · exact tsome (ld_ext (z := 0) h2 (fun j a b => h3 j a (by omega)))
theorem eqIntS (l : List Int) (hl : l.length ≤ 1048576) : Tot (fun k => laws_eqIntS.f k l l) (fun r => r = true) := by
  unfold laws_eqIntS.f
  refine tpos rfl ?_
  refine trec (σ := Int) (fun i k => laws_eqIntS.l0 k l l i) (fun i => ((l.length : Int) - i).toNat) (fun i => 0 ≤ i ∧ i ≤ (l.length : Int)) (fun _ r => r = true) ?_ 0 ⟨Int.le_refl _, by omega⟩
  rintro i ⟨h0, h1⟩ ih
  simp only [laws_eqIntS.l0, if_true]
  refine tite (fun c => ?_) (fun c => tsome rfl)
  refine tpos h0 (tpos (by omega) ?_)
  rw [wrap64_id (by omega) (by omega)]
  exact ih (i + 1) ⟨by omega, by omega⟩ (by (try dsimp only); omega)
theorem szIntS (l : List Int) (n : Int) (hn : 0 ≤ n) (hn2 : n ≤ 1048576) (hl : l.length ≤ 9223372036854775807) : laws_szIntS.f l n = some (if n < l.length then -1 else n - l.length) := by
  unfold laws_szIntS.f
  simp only [wrap64_id (x := n - (l.length : Int)) (by omega) (by omega)]
  by_cases h : n < l.length
  · rw [if_pos (by omega), if_pos h]
  · rw [if_neg (by omega), if_neg h]

def mkInts (j : Int) (n : Nat) : List Int := (List.range n).map fun i : Nat => j + (i : Int)
theorem mkInts_at (j : Int) (n : Nat) (i : Int) (h0 : 0 ≤ i) (h : i < n) : rd (mkInts j n) i = j + i := by
  obtain ⟨m, rfl⟩ := Int.eq_ofNat_of_zero_le h0
  have hm : m < n := by omega
  unfold rd mkInts
  simp [List.getD, hm]
theorem markIntS (l : List Int) (j : Int) (hl : l.length ≤ 1048576) (hj : 0 ≤ j) (hj2 : j ≤ 1125899906842624) : Tot (fun k => laws_markIntS.f k l j) (fun r => r = (j + (l.length : Int), mkInts j l.length)) := by
  unfold laws_markIntS.f
  have key := trec (σ := List Int × Int) (fun s k => laws_markIntS.l0 k s.1 (j + s.2) s.2) (fun s => ((l.length : Int) - s.2).toNat)
    (fun s => 0 ≤ s.2 ∧ s.2 ≤ (l.length : Int) ∧ s.1.length = l.length ∧ ∀ i : Int, 0 ≤ i → i < s.2 → rd s.1 i = rd (mkInts j l.length) i) (fun _ r => r = (j + (l.length : Int), mkInts j l.length)) ?_
  · have h := key (l, 0) ⟨Int.le_refl _, by dsimp only; omega, rfl, fun i h0 h1 => by dsimp only at h1; omega⟩
    simpa using h
  · rintro ⟨ys, i⟩ ⟨h0, h1, h2, h3⟩ ih
    dsimp only at h0 h1 h2 h3
    simp only [laws_markIntS.l0, Option.bind_some]
    refine tite (fun c => ?_) (fun c => ?_)
    · refine tpos h0 ?_
      rw [wrap64_id (x := j + i + 1) (by omega) (by omega), wrap64_id (x := i + 1) (by omega) (by omega), show j + i + 1 = j + (i + 1) by omega]
      refine ih (_, i + 1) ⟨by dsimp only; omega, by dsimp only; omega, by simp [h2], ?_⟩ (by dsimp only; omega)
      intro p p0 p1
      dsimp only at p1 ⊢
      by_cases ep : p = i
      · subst ep
        rw [mkInts_at j _ p p0 (by omega)]
        unfold rd; exact ld_set_self _ p (by omega) p0
      · unfold rd
        rw [ld_set_ne _ _ _ h0 p0 (by omega)]
        exact h3 p p0 (by omega)
    · obtain rfl : i = (l.length : Int) := by omega
      refine tsome ?_
      congr 1
      refine ld_ext (z := 0) (by simp [mkInts, h2]) (fun p p0 p1 => ?_)
      exact h3 p p0 (by omega)
theorem heldIntS (j : Int) (n : Nat) (hn : n ≤ 1048576) (hj : 0 ≤ j) (hj2 : j ≤ 1125899906842624) : Tot (fun k => laws_heldIntS.f k (mkInts j n) j) (fun r => r = j + (n : Int)) := by
  unfold laws_heldIntS.f
  have hlen : ((mkInts j n).length : Int) = n := by simp [mkInts]
  have key := trec (σ := Int) (fun i k => laws_heldIntS.l0 k (mkInts j n) (j + i) i) (fun i => ((n : Int) - i).toNat) (fun i => 0 ≤ i ∧ i ≤ (n : Int)) (fun _ r => r = j + (n : Int)) ?_ 0 ⟨Int.le_refl _, by omega⟩
  · simpa using key
  · rintro i ⟨h0, h1⟩ ih
    simp only [laws_heldIntS.l0, hlen]
    refine tite (fun c => ?_) (fun c => ?_)
    · refine tpos h0 ?_
      simp only [mkInts_at j n i h0 c]
      refine tpos (by first | trivial | rfl) ?_
      rw [wrap64_id (x := j + i + 1) (by omega) (by omega), wrap64_id (x := i + 1) (by omega) (by omega), show j + i + 1 = j + (i + 1) by omega]
      exact ih (i + 1) ⟨by omega, by omega⟩ (by (try dsimp only); omega)
    · exact tsome (by omega)

theorem toInstrument (l : List Int) (a : Int) (hl : l.length ≤ 1048576) : Tot (fun k => laws_toInstrument.f k l a) (fun r => r = (l, a)) := by
  unfold laws_toInstrument.f
  refine tbind (toIntS l hl) (fun _ e => ?_); subst e
  exact tsome rfl
theorem eqInstrument (l : List Int) (a : Int) (hl : l.length ≤ 1048576) : Tot (fun k => laws_eqInstrument.f k l a l a) (fun r => r = true) := by
  unfold laws_eqInstrument.f
  refine tbind (eqIntS l hl) (fun _ e => ?_); subst e
  exact tpos rfl (tpos rfl (tsome rfl))
theorem szInstrument (l : List Int) (a n : Int) (hn : 0 ≤ n) (hn2 : n ≤ 1048576) (hl : l.length ≤ 9223372036854775807) : laws_szInstrument.f l a n = some (if n < l.length then -1 else n - l.length) := by
  unfold laws_szInstrument.f
  rw [szIntS l n hn hn2 hl]
  simp only [Option.bind_some]
  by_cases h : n < l.length
  · simp only [if_pos h]; rw [if_pos (by omega)]
  · simp only [if_neg h]; rw [if_neg (by omega)]

theorem isPitch_eq (a : Int) : impl_isPitch.f a = some (decide (24 ≤ a ∧ a ≤ 96)) := by
  unfold impl_isPitch.f
  by_cases h : 24 ≤ a <;> simp [h]
def InC (l : List Int) (j : Int) : Prop := 24 ≤ rd l j ∧ rd l j ≤ 96 ∧ (0 < j → rd l (j - 1) < rd l j)
def InGood (l : List Int) (a : Int) : Prop := (∀ j : Int, 0 ≤ j → j < (l.length : Int) → InC l j) ∧ (1 ≤ (l.length : Int) ∧ (l.length : Int) ≤ 20 ∧ 1 ≤ a ∧ a ≤ 20)
theorem l1Rising_tot (l : List Int) (hl : l.length ≤ 1048576) : Tot (fun k => spec_l1Rising.f k l 24 96) (fun b => (b = true) ↔ ((∀ j : Int, 0 ≤ j → j < (l.length : Int) → InC l j) ∧ True)) := by
  unfold spec_l1Rising.f
  refine trec (σ := Int) (fun i k => spec_l1Rising.l0 k l 24 96 l (l.length : Int) i) (fun i => ((l.length : Int) - i).toNat) (fun i => 0 ≤ i ∧ i ≤ (l.length : Int))
    (fun i b => (b = true) ↔ ((∀ j : Int, i ≤ j → j < (l.length : Int) → InC l j) ∧ True)) ?_ 0 ⟨Int.le_refl _, by omega⟩
  rintro i ⟨h0, h1⟩ ih
  simp only [spec_l1Rising.l0, l1In_eq, Option.bind_some, decide_eq_true_eq]
  simp only [show wrap64 (i + 1) = i + 1 from wrap64_id (by omega) (by omega), show wrap64 (i - 1) = i - 1 from wrap64_id (by omega) (by omega)]
  repeat' (refine tite (fun _ => ?_) (fun _ => ?_))
  all_goals first
    | (exfalso; omega)
    | exact tsome (all_no (by omega) (by unfold InC; omega))
    | exact tmono (ih (i + 1) ⟨by omega, by omega⟩ (by (try dsimp only); omega)) (fun b hb => all_go (by omega) (by unfold InC; omega) hb)
    | exact tsome (all_end (by omega) (by simp))
theorem inGood_tot (l : List Int) (a : Int) (hl : l.length ≤ 1048576) : Tot (fun k => spec_inGood.f k l a) (fun b => (b = true) ↔ InGood l a) := by
  unfold spec_inGood.f
  simp only [l1In_eq, Option.bind_some, decide_eq_true_eq]
  refine tite (fun c => ?_) (fun c => tsome ⟨(fun h => by simp at h), (fun h => by have := h.2; omega)⟩)
  refine tbind (l1Rising_tot l hl) (fun b hb => ?_)
  refine tite (fun c2 => ?_) (fun c2 => tsome ⟨(fun h => by simp at h), (fun h => absurd (hb.2 ⟨h.1, trivial⟩) c2)⟩)
  refine tsome ?_
  have := (hb.1 c2).1
  unfold InGood
  simp only [decide_eq_true_eq]
  exact ⟨fun h => ⟨this, by omega⟩, fun h => by omega⟩
theorem isInstrument_tot (l : List Int) (a : Int) (hl : l.length ≤ 1048576) : Tot (fun k => impl_IsInstrument.f k l a) (fun b => (b = true) ↔ InGood l a) := by
  have key : 1 ≤ (l.length : Int) → (l.length : Int) ≤ 20 → 1 ≤ a → a ≤ 20 → Tot (fun k => impl_IsInstrument.l0 k l (l.length : Int) 0 l a) (fun b => (b = true) ↔ InGood l a) := by
    intro g1 g2 g3 g4
    refine tmono (trec (σ := Int) (fun i k => impl_IsInstrument.l0 k l (l.length : Int) i l a) (fun i => ((l.length : Int) - i).toNat) (fun i => 0 ≤ i ∧ i ≤ (l.length : Int))
      (fun i b => (b = true) ↔ ((∀ j : Int, i ≤ j → j < (l.length : Int) → InC l j) ∧ True)) ?_ 0 ⟨Int.le_refl _, by omega⟩) (fun b hb => ?_)
    · rintro i ⟨h0, h1⟩ ih
      simp only [impl_IsInstrument.l0, isPitch_eq, Option.bind_some, decide_eq_true_eq]
      simp only [show wrap64 (i + 1) = i + 1 from wrap64_id (by omega) (by omega), show wrap64 (i - 1) = i - 1 from wrap64_id (by omega) (by omega)]
      repeat' (refine tite (fun _ => ?_) (fun _ => ?_))
      all_goals first
        | (exfalso; omega)
        | exact tsome (all_no (by omega) (by unfold InC; omega))
        | exact tmono (ih (i + 1) ⟨by omega, by omega⟩ (by (try dsimp only); omega)) (fun b hb => all_go (by omega) (by unfold InC; omega) hb)
        | exact tsome (all_end (by omega) (by simp))
    · rw [hb]; unfold InGood
      exact ⟨fun h => ⟨h.1, g1, g2, g3, g4⟩, fun h => ⟨h.1, trivial⟩⟩
  have no : ¬ InGood l a → Tot (fun k => impl_IsInstrument.j0 k true l a) (fun b => (b = true) ↔ InGood l a) := by
    intro hn
    refine tstep ?_
    simp only [impl_IsInstrument.j0, if_true]
    exact tsome ⟨(fun h => by simp at h), (fun h => absurd h hn)⟩
  unfold impl_IsInstrument.f
  refine tite (fun c => no (fun h => by have := h.2; omega)) (fun c1 => ?_)
  refine tite (fun c => no (fun h => by have := h.2; omega)) (fun c2 => ?_)
  refine tite (fun c => no (fun h => by have := h.2; omega)) (fun c3 => ?_)
  by_cases h : a > 20
  · rw [decide_eq_true h]
    exact no (fun h => by have := h.2; omega)
  · rw [decide_eq_false h]
    refine tstep ?_
    simp only [impl_IsInstrument.j0]
    exact tneg (by simp) (key (by omega) (by omega) (by omega) (by omega))

def Idx (l : List Int) (x i r : Int) : Prop := (r = -1 ∧ ∀ j : Int, i ≤ j → j < (l.length : Int) → rd l j ≠ x) ∨ (i ≤ r ∧ r < (l.length : Int) ∧ rd l r = x ∧ ∀ j : Int, i ≤ j → j < r → rd l j ≠ x)
theorem Idx.go {l : List Int} {x i r : Int} (hx : rd l i ≠ x) (h : Idx l x (i + 1) r) : Idx l x i r := by
  rcases h with ⟨e, h⟩ | ⟨a, b, c, h⟩
  · refine .inl ⟨e, fun j j0 j1 => ?_⟩
    by_cases e : j = i
    · rw [e]; exact hx
    · exact h j (by omega) j1
  · refine .inr ⟨by omega, b, c, fun j j0 j1 => ?_⟩
    by_cases e : j = i
    · rw [e]; exact hx
    · exact h j (by omega) j1
theorem Idx.det {l : List Int} {x r r' : Int} (h : Idx l x 0 r) (h' : Idx l x 0 r') : r = r' := by
  rcases h with ⟨e, h⟩ | ⟨a, b, c, h⟩ <;> rcases h' with ⟨e', h'⟩ | ⟨a', b', c', h'⟩
  · omega
  · exact absurd c' (h r' a' b')
  · exact absurd c (h' r a b)
  · rcases Int.lt_trichotomy r r' with g | g | g
    · exact absurd c (h' r a g)
    · exact g
    · exact absurd c' (h r' a' g)
theorem inTrack_tot (l : List Int) (a x : Int) (hl : l.length ≤ 1048576) : Tot (fun k => spec_inTrack.f k l a x) (fun r => Idx l x 0 r) := by
  unfold spec_inTrack.f
  refine trec (σ := Int) (fun i k => spec_inTrack.l0 k x l (l.length : Int) i) (fun i => ((l.length : Int) - i).toNat) (fun i => 0 ≤ i ∧ i ≤ (l.length : Int)) (fun i r => Idx l x i r) ?_ 0 ⟨Int.le_refl _, by omega⟩
  rintro i ⟨h0, h1⟩ ih
  simp only [spec_inTrack.l0]
  refine tite (fun c => ?_) (fun c => tsome (.inl ⟨rfl, fun j j0 j1 => by omega⟩))
  refine tpos h0 (tpos c ?_)
  refine tite (fun c2 => tsome (.inr ⟨Int.le_refl _, c, c2, fun j j0 j1 => by omega⟩)) (fun c2 => ?_)
  rw [wrap64_id (by omega) (by omega)]
  exact tmono (ih (i + 1) ⟨by omega, by omega⟩ (by (try dsimp only); omega)) (fun r hr => hr.go c2)

theorem slicesIndex_tot (l : List Int) (x : Int) (hl : l.length ≤ 1048576) : Tot (fun k => slices_Index_int_int.f k l x) (fun r => Idx l x 0 r) := by
  unfold slices_Index_int_int.f
  refine trec (σ := Int) (fun i k => slices_Index_int_int.l0 k l x (l.length : Int) i) (fun i => ((l.length : Int) - i).toNat) (fun i => 0 ≤ i ∧ i ≤ (l.length : Int)) (fun i r => Idx l x i r) ?_ 0 ⟨Int.le_refl _, by omega⟩
  rintro i ⟨h0, h1⟩ ih
  simp only [slices_Index_int_int.l0]
  refine tite (fun c => ?_) (fun c => tsome (.inl ⟨rfl, fun j j0 j1 => by omega⟩))
  refine tpos h0 (tpos c ?_)
  refine tite (fun c2 => tsome (.inr ⟨Int.le_refl _, c, c2.symm, fun j j0 j1 => by omega⟩)) (fun c2 => ?_)
  rw [wrap64_id (by omega) (by omega)]
  exact tmono (ih (i + 1) ⟨by omega, by omega⟩ (by (try dsimp only); omega)) (fun r hr => hr.go (fun e => c2 e.symm))

theorem Idx.pos {l : List Int} {x r : Int} (h : Idx l x 0 r) : 0 ≤ r ↔ x ∈ l := by
  constructor
  · intro h0
    rcases h with ⟨e, _⟩ | ⟨a, b, c, _⟩
    · omega
    · rw [← c]; exact ld_mem r b a
  · intro hx
    rcases h with ⟨e, h⟩ | ⟨a, b, c, _⟩
    · obtain ⟨i, hi, e2⟩ := List.getElem_of_mem hx
      have := h (i : Int) (by omega) (by omega)
      unfold rd at this
      simp [List.getD, hi, e2] at this
    · omega
theorem contains_tot (l : List Int) (x : Int) (hl : l.length ≤ 1048576) : Tot (fun k => slices_Contains_int_int.f k l x) (fun b => (b = true) ↔ x ∈ l) := by
  unfold slices_Contains_int_int.f
  exact tbind (slicesIndex_tot l x hl) (fun r hr => tsome (by rw [decide_eq_true_eq]; exact hr.pos))

theorem markInstrument (l : List Int) (a j : Int) (hl : l.length ≤ 1048576) (hj : 0 ≤ j) (hj2 : j ≤ 1125899906842624) : Tot (fun k => laws_markInstrument.f k l a j) (fun r => r = (j + (l.length : Int), mkInts j l.length)) := by
  unfold laws_markInstrument.f
  refine tbind (markIntS l j hl hj hj2) (fun _ e => ?_); subst e
  exact tsome rfl

def comUpto (a b : List Int) : Nat → List Int
  | 0 => []
  | i + 1 => if rd a i ∈ b then comUpto a b i ++ [rd a i] else comUpto a b i
theorem comUpto_len (a b : List Int) (i : Nat) : (comUpto a b i).length ≤ i := by
  induction i with
  | zero => simp [comUpto]
  | succ i ih => unfold comUpto; split <;> (try simp) <;> omega

theorem specCommon_tot (a b : List Int) (y : Int) (ha : a.length ≤ 1048576) (hb : b.length ≤ 1048576) : Tot (fun k => spec_CommonPitches.l0 k [] a (a.length : Int) 0 b y) (fun r => r = (comUpto a b a.length, true)) := by
  refine trec (σ := Nat) (fun i k => spec_CommonPitches.l0 k (comUpto a b i) a (a.length : Int) (i : Int) b y) (fun i => a.length - i) (fun i => i ≤ a.length) (fun _ r => r = (comUpto a b a.length, true)) ?_ 0 (Nat.zero_le _)
  intro i hi ih
  simp only [spec_CommonPitches.l0, wrap64_id (x := (i : Int) + 1) (by omega) (by omega)]
  refine tite (fun c => ?_) (fun c => tsome (by rw [show i = a.length by omega]))
  refine tpos (by omega) (tpos c ?_)
  have hlen := comUpto_len a b i
  have go : ∀ o, o = comUpto a b (i + 1) → Tot (fun k => spec_CommonPitches.l0 k o a (a.length : Int) ((i : Int) + 1) b y) (fun r => r = (comUpto a b a.length, true)) := fun o e => by
    rw [e]
    have := ih (i + 1) (by omega) (by omega)
    simpa using this
  refine tbind (inTrack_tot b y _ hb) (fun r hr => ?_)
  exact tite (fun c2 => tpos (by omega) (go _ (by conv => rhs; unfold comUpto; rw [if_pos (hr.pos.1 c2)]))) (fun c2 => go _ (by conv => rhs; unfold comUpto; rw [if_neg (fun h => c2 (hr.pos.2 h))]))

theorem implCommon_tot (a b : List Int) (y : Int) (ha : a.length ≤ 1048576) (hb : b.length ≤ 1048576) : Tot (fun k => impl_CommonPitches.l0 k [] a (a.length : Int) 0 b y) (fun r => r = (comUpto a b a.length, true)) := by
  refine trec (σ := Nat) (fun i k => impl_CommonPitches.l0 k (comUpto a b i) a (a.length : Int) (i : Int) b y) (fun i => a.length - i) (fun i => i ≤ a.length) (fun _ r => r = (comUpto a b a.length, true)) ?_ 0 (Nat.zero_le _)
  intro i hi ih
  simp only [impl_CommonPitches.l0, wrap64_id (x := (i : Int) + 1) (by omega) (by omega)]
  refine tite (fun c => ?_) (fun c => tsome (by rw [show i = a.length by omega]))
  refine tpos (by omega) (tpos c ?_)
  have hlen := comUpto_len a b i
  have go : ∀ o, o = comUpto a b (i + 1) → Tot (fun k => impl_CommonPitches.l0 k o a (a.length : Int) ((i : Int) + 1) b y) (fun r => r = (comUpto a b a.length, true)) := fun o e => by
    rw [e]
    have := ih (i + 1) (by omega) (by omega)
    simpa using this
  refine tbind (contains_tot b _ hb) (fun r hr => ?_)
  exact tite (fun c2 => tpos (by omega) (go _ (by conv => rhs; unfold comUpto; rw [if_pos (hr.1 c2)]))) (fun c2 => go _ (by conv => rhs; unfold comUpto; rw [if_neg (fun h => c2 (hr.2 h))]))

theorem commonPitches_agree (a : List Int) (x : Int) (b : List Int) (y : Int) (ha : a.length ≤ 1048576) (hb : b.length ≤ 1048576) : ∃ r, Tot (fun k => spec_CommonPitches.f k a x b y) (fun z => z = r) ∧ Tot (fun k => impl_CommonPitches.f k a x b y) (fun z => z = r) ∧ r.1.length ≤ 1048576 := by
  have sF : Tot (fun k => spec_CommonPitches.j0 k true a x b y) (fun z => z = ([], false)) := by
    refine tstep ?_
    simp only [spec_CommonPitches.j0, if_true]
    exact tsome rfl
  have iF : Tot (fun k => impl_CommonPitches.j0 k true a x b y) (fun z => z = ([], false)) := by
    refine tstep ?_
    simp only [impl_CommonPitches.j0, if_true]
    exact tsome rfl
  by_cases hg : InGood a x ∧ InGood b y
  · refine ⟨(comUpto a b a.length, true), ?_, ?_, by have := comUpto_len a b a.length; dsimp only; omega⟩
    · unfold spec_CommonPitches.f
      refine tbind (inGood_tot a x ha) (fun r1 h1 => tpos (h1.2 hg.1) ?_)
      refine tbind (inGood_tot b y hb) (fun r2 h2 => ?_)
      rw [h2.2 hg.2]
      refine tstep ?_
      simp only [spec_CommonPitches.j0]
      exact tneg (by simp) (specCommon_tot a b y ha hb)
    · unfold impl_CommonPitches.f
      refine tbind (isInstrument_tot a x ha) (fun r1 h1 => tpos (h1.2 hg.1) ?_)
      refine tbind (isInstrument_tot b y hb) (fun r2 h2 => ?_)
      rw [h2.2 hg.2]
      refine tstep ?_
      simp only [impl_CommonPitches.j0]
      exact tneg (by simp) (implCommon_tot a b y ha hb)
  · refine ⟨([], false), ?_, ?_, by simp⟩
    · unfold spec_CommonPitches.f
      refine tbind (inGood_tot a x ha) (fun r1 h1 => tite (fun c => ?_) (fun c => sF))
      refine tbind (inGood_tot b y hb) (fun r2 h2 => ?_)
      rw [show r2 = false by
        cases r2 with
        | false => rfl
        | true => exact absurd ⟨h1.1 c, h2.1 rfl⟩ hg]
      exact sF
    · unfold impl_CommonPitches.f
      refine tbind (isInstrument_tot a x ha) (fun r1 h1 => tite (fun c => ?_) (fun c => iF))
      refine tbind (isInstrument_tot b y hb) (fun r2 h2 => ?_)
      rw [show r2 = false by
        cases r2 with
        | false => rfl
        | true => exact absurd ⟨h1.1 c, h2.1 rfl⟩ hg]
      exact iF


theorem FnExactCommonPitches (l0_0 : List Int) (a0_1 : Int) (l1_0 : List Int) (a1_1 : Int) (hm0_0 : l0_0.length ≤ 9223372036854775807) (hw0_0 : ∀ y ∈ l0_0, Glue.wf64 y) (w0_1 : Glue.wf64 a0_1) (hm1_0 : l1_0.length ≤ 9223372036854775807) (hw1_0 : ∀ y ∈ l1_0, Glue.wf64 y) (w1_1 : Glue.wf64 a1_1) : ∃ k, laws_FnExactCommonPitches.f k l0_0 a0_1 l1_0 a1_1 = some true := by
  refine rounds ?_
  unfold laws_FnExactCommonPitches.f
  rw [szInstrument l0_0 a0_1 (1048576 : Int) (by omega) (by omega) hm0_0]
  simp only [Option.bind_some]
  by_cases hl0 : (1048576 : Int) < (l0_0.length : Int)
  · simp only [if_pos hl0]; exact tpos (by omega) (tsome rfl)
  simp only [if_neg hl0]
  refine tneg (by omega) ?_
  rw [szInstrument l1_0 a1_1 ((1048576 : Int) - (l0_0.length : Int)) (by omega) (by omega) hm1_0]
  simp only [Option.bind_some]
  by_cases hl1 : ((1048576 : Int) - (l0_0.length : Int)) < (l1_0.length : Int)
  · simp only [if_pos hl1]; exact tpos (by omega) (tsome rfl)
  simp only [if_neg hl1]
  refine tneg (by omega) ?_
  obtain ⟨r, hS, hI, hR⟩ := commonPitches_agree l0_0 a0_1 l1_0 a1_1 (by omega) (by omega)
  repeat first
    | exact tsome rfl
    | (refine tbind hS (fun _ e => ?_); subst e)
    | (refine tbind hI (fun _ e => ?_); subst e)
    | (refine tbind (toInstrument l0_0 a0_1 (by omega)) (fun _ e => ?_); subst e)
    | (refine tbind (eqInstrument _ _ (by first | omega | (dsimp only; omega) | (simp; omega) | assumption)) (fun _ e => ?_); subst e)
    | (refine tbind (toInstrument l1_0 a1_1 (by omega)) (fun _ e => ?_); subst e)
    | (refine tbind (eqIntS _ (by first | assumption | omega | (dsimp only; omega) | (simp; omega))) (fun _ e => ?_); subst e)
    | (refine tbind (markIntS _ 1 (by first | assumption | omega | (dsimp only; omega) | (simp; omega)) (by omega) (by omega)) (fun _ e => ?_); subst e)
    | (refine tbind (heldIntS 1 _ (by first | omega | (simp; omega)) (by omega) (by omega)) (fun _ e => ?_); subst e)
    | (refine tbind (markInstrument _ _ _ (by first | omega | (simp; omega)) (by first | omega | (dsimp only; omega)) (by first | omega | (dsimp only; omega))) (fun _ e => ?_); subst e)
    | refine tpos rfl ?_
    | refine tneg (by dsimp only; omega) ?_
    | refine tneg (by omega) ?_
    | refine tneg (by simp; done) ?_
    | refine tpos (by dsimp only) ?_
    | (refine tstep ?_; simp only [laws_FnExactCommonPitches.j0])
    | (refine tstep ?_; simp only [laws_FnExactCommonPitches.j1])
    | (refine tstep ?_; simp only [laws_FnExactCommonPitches.j2])
end Go.Proofs.Ytioagkpinneheaa.Pure
