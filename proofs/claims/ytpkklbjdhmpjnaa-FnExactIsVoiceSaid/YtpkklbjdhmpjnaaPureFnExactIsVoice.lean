/- The plain side of the law FnExactIsVoice: lists and numbers alone. -/
import Derived.Test.YtpkklbjdhmpjnaaPFnExactIsVoicex2
import Derived.Test.YtpkklbjdhmpjnaaGlue
import Derived.Test.YtpkklbjdhmpjnaaTot
set_option linter.unusedVariables false
set_option linter.unusedSimpArgs false
namespace Go.Proofs.Ytpkklbjdhmpjnaa.Pure
open Go.RowKit Go.Proofs.Ytpkklbjdhmpjnaa.PFnExactIsVoice Go.Proofs.YtpkklbjdhmpjnaaW.PrintWords Go.Proofs.YtpkklbjdhmpjnaaW.PrintMore Go.Proofs.Ytpkklbjdhmpjnaa.Tot

theorem l1In_eq (a b c : Int) : spec_l1In.f a b c = some (decide (b ≤ a ∧ a ≤ c)) := by
  unfold spec_l1In.f
  by_cases h : b ≤ a <;> simp [h]

def cvEvent (x : S95) : S93 := ⟨x.f0, x.f1, x.f2⟩
theorem toEventS (l : List S95) (hl : l.length ≤ 1048576) : Tot (fun k => laws_toEventS.f k l) (fun r => r = l.map cvEvent) := by
  unfold laws_toEventS.f
  refine tpos (by omega) (tpos (by omega) ?_)
  have key := trec (σ := List S93 × Int) (fun s k => laws_toEventS.l0 k l s.1 s.2) (fun s => ((l.length : Int) - s.2).toNat)
    (fun s => 0 ≤ s.2 ∧ s.2 ≤ (l.length : Int) ∧ s.1.length = l.length ∧ ∀ j : Int, 0 ≤ j → j < s.2 → s.1.getD j.toNat z93 = cvEvent (l.getD j.toNat z95)) (fun _ r => r = l.map cvEvent) ?_
  · exact key (List.replicate (l.length : Int).toNat z93, 0) ⟨Int.le_refl _, by dsimp only; omega, by simp, fun j h0 h1 => by dsimp only at h1; omega⟩
  · rintro ⟨ys, i⟩ ⟨h0, h1, h2, h3⟩ ih
    dsimp only at h0 h1 h2 h3
    simp only [laws_toEventS.l0, laws_toEvent.f, Option.bind_some]
    refine tite (fun c => ?_) (fun c => ?_)
    · refine tpos h0 (tpos (by omega) ?_)
      rw [wrap64_id (by omega) (by omega)]
      refine ih (_, i + 1) ⟨by dsimp only; omega, by dsimp only; omega, by simp [h2], ?_⟩ (by dsimp only; omega)
      intro j hj0 hj1
      dsimp only at hj1 ⊢
      by_cases e : j = i
      · subst e; rw [ld_set_self _ _ (by omega) hj0]; rfl
      · rw [ld_set_ne _ _ _ h0 hj0 (by omega)]; exact h3 j hj0 (by omega)
    · exact tsome (write_end h2 (fun j a b => h3 j a (by omega)))

theorem eqEventS (l : List S93) (hl : l.length ≤ 1048576) : Tot (fun k => laws_eqEventS.f k l l) (fun r => r = true) := by
  unfold laws_eqEventS.f
  refine tpos rfl ?_
  refine trec (σ := Int) (fun i k => laws_eqEventS.l0 k l l i) (fun i => ((l.length : Int) - i).toNat) (fun i => 0 ≤ i ∧ i ≤ (l.length : Int)) (fun _ r => r = true) ?_ 0 ⟨Int.le_refl _, by omega⟩
  rintro i ⟨h0, h1⟩ ih
  simp only [laws_eqEventS.l0, laws_eqEvent.f, if_true, Option.bind_some]
  refine tite (fun c => ?_) (fun c => tsome rfl)
  refine tpos h0 (tpos (by omega) ?_)
  rw [wrap64_id (by omega) (by omega)]
  exact ih (i + 1) ⟨by omega, by omega⟩ (by (try dsimp only); omega)

theorem szEventS (l : List S95) (n : Int) (hn : 0 ≤ n) (hn2 : n ≤ 1048576) (hl : l.length ≤ 9223372036854775807) : laws_szEventS.f l n = some (if n < l.length then -1 else n - l.length) := by
  unfold laws_szEventS.f
  simp (disch := omega) only [wrap64_id]
  by_cases h : n < l.length
  · rw [if_pos (by omega), if_pos h]
  · rw [if_neg (by omega), if_neg h]

theorem ntPitch_eq (a : Int) : spec_ntPitch.f a = some (decide (24 ≤ a ∧ a ≤ 96)) := by
  unfold spec_ntPitch.f
  simp only [l1In_eq, Option.bind_some]

theorem gcd_step (a b : Int) (ha : 0 ≤ a) (hb : 0 < b) : 0 ≤ Int.tmod a b ∧ Int.tmod a b < b ∧ Nat.gcd b.toNat (Int.tmod a b).toNat = Nat.gcd a.toNat b.toNat := by
  obtain ⟨m, rfl⟩ := Int.eq_ofNat_of_zero_le ha
  obtain ⟨n, rfl⟩ := Int.eq_ofNat_of_zero_le (Int.le_of_lt hb)
  have e : Int.tmod (m : Int) (n : Int) = ((m % n : Nat) : Int) := rfl
  rw [e]
  have h1 : m % n < n := Nat.mod_lt _ (by omega)
  refine ⟨by omega, by omega, ?_⟩
  simp only [Int.toNat_natCast]
  rw [Nat.gcd_comm m n, Nat.gcd_rec n m, Nat.gcd_comm]
theorem gcd_tot (a b : Int) (ha : 0 ≤ a) (hb : 0 ≤ b) : Tot (fun k => impl_gcd.f k a b) (fun r => r = (Nat.gcd a.toNat b.toNat : Int)) := by
  unfold impl_gcd.f
  refine trec (σ := Int × Int) (fun s k => impl_gcd.l0 k s.1 s.2) (fun s => s.2.toNat) (fun s => 0 ≤ s.1 ∧ 0 ≤ s.2 ∧ Nat.gcd s.1.toNat s.2.toNat = Nat.gcd a.toNat b.toNat) (fun _ r => r = (Nat.gcd a.toNat b.toNat : Int)) ?_ (a, b) ⟨ha, hb, rfl⟩
  rintro ⟨x, y⟩ ⟨hx, hy, hg⟩ ih
  dsimp only at hx hy hg
  simp only [impl_gcd.l0]
  refine tite (fun c => tsome ?_) (fun c => ?_)
  · subst c
    rw [← hg]
    simp
    omega
  · obtain ⟨h1, h2, h3⟩ := gcd_step x y hx (by omega)
    exact ih (y, Int.tmod x y) ⟨hy, h1, by dsimp only; rw [h3, hg]⟩ (by dsimp only; omega)
theorem gcd_pos (a b : Int) (hb : 0 < b) : 0 < (Nat.gcd a.toNat b.toNat : Int) := by
  have : 0 < Nat.gcd a.toNat b.toNat := Nat.gcd_pos_of_pos_right _ (by omega)
  omega
theorem tdiv_eq (a g : Int) (ha : 0 ≤ a) (ha2 : a ≤ 4611686018427387904) (hg : 0 < g) : wrap64 (Int.tdiv a g) = a / g := by
  rw [Int.tdiv_eq_ediv_of_nonneg ha]
  have h1 : 0 ≤ a / g := Int.ediv_nonneg ha (by omega)
  have h2 : a / g ≤ a := Int.ediv_le_self _ ha
  exact wrap64_id (by omega) (by omega)

theorem noPart_tot (a b : Int) (ha : 0 ≤ a) (ha2 : a ≤ 4611686018427387904) (hb : 0 < b) (hb2 : b ≤ 4611686018427387904) : Tot (fun k => spec_noPart.f k a b) (fun r => r = (a / (Nat.gcd a.toNat b.toNat : Int), b / (Nat.gcd a.toNat b.toNat : Int))) := by
  unfold spec_noPart.f
  have habs : spec_l1Abs.f a = some a := by
    unfold spec_l1Abs.f spec_l1Most.f
    rw [wrap64_id (by omega) (by omega)]
    by_cases h : a > -a
    · rw [if_pos h]; rfl
    · rw [if_neg h]
      have : -a = a := by omega
      rw [this]; rfl
  rw [habs]
  simp only [Option.bind_some]
  have hg := gcd_pos a b hb
  refine trec (σ := Int × Int) (fun s k => spec_noPart.l0 k a b s.1 s.2) (fun s => s.2.toNat) (fun s => 0 ≤ s.1 ∧ 0 ≤ s.2 ∧ Nat.gcd s.1.toNat s.2.toNat = Nat.gcd a.toNat b.toNat) (fun _ r => r = (a / (Nat.gcd a.toNat b.toNat : Int), b / (Nat.gcd a.toNat b.toNat : Int))) ?_ (a, b) ⟨ha, by dsimp only; omega, rfl⟩
  rintro ⟨x, y⟩ ⟨hx, hy, hgx⟩ ih
  dsimp only at hx hy hgx
  simp only [spec_noPart.l0]
  refine tite (fun c => ?_) (fun c => ?_)
  · refine tneg (by omega) ?_
    obtain ⟨h1, h2, h3⟩ := gcd_step x y hx c
    exact ih (y, Int.tmod x y) ⟨hy, h1, by dsimp only; rw [h3, hgx]⟩ (by dsimp only; omega)
  · obtain rfl : y = 0 := by omega
    have e : x = (Nat.gcd a.toNat b.toNat : Int) := by
      rw [← hgx]; simp; omega
    refine tneg (by omega) ?_
    exact tsome (by rw [e, tdiv_eq a _ ha ha2 hg, tdiv_eq b _ (by omega) hb2 hg])

def OkEvent (a b c : Int) : Prop := (a = 0 ∨ (24 ≤ a ∧ a ≤ 96)) ∧ (1 ≤ b ∧ b ≤ 99) ∧ (1 ≤ c ∧ c ≤ 16) ∧ Nat.gcd b.toNat c.toNat = 1
theorem div_one {b g : Int} (hb : 0 < b) (hg : 0 < g) : b / g = b ↔ g = 1 := by
  constructor
  · intro h
    by_cases h1 : 1 < g
    · have h2 : b / g < b := by
        apply Int.ediv_lt_of_lt_mul hg
        have : b * 2 ≤ b * g := Int.mul_le_mul_of_nonneg_left (by omega) (by omega)
        omega
      omega
    · omega
  · intro h; subst h; simp
theorem noEvent_tot (a b c : Int) : Tot (fun k => spec_noEvent.f k a b c) (fun r => (r = true) ↔ OkEvent a b c) := by
  have hF : ¬ OkEvent a b c → Tot (fun _ => some false) (fun r => (r = true) ↔ OkEvent a b c) := fun h => tsome ⟨(fun g => by simp at g), (fun g => absurd g h)⟩
  have hT : (a = 0 ∨ (24 ≤ a ∧ a ≤ 96)) → (1 ≤ b ∧ b ≤ 99) → (1 ≤ c ∧ c ≤ 16) → Tot (fun k => (spec_noPart.f k b c).bind fun r => some (r.2 == c)) (fun r => (r = true) ↔ OkEvent a b c) := by
    intro h1 h2 h3
    refine tbind (noPart_tot b c (by omega) (by omega) (by omega) (by omega)) (fun _ e => ?_); subst e
    refine tsome ?_
    dsimp only
    rw [beq_iff_eq, div_one (by omega) (gcd_pos b c (by omega))]
    exact ⟨fun h => ⟨h1, h2, h3, by omega⟩, fun h => by have := h.2.2.2; omega⟩
  unfold spec_noEvent.f
  simp only [ntPitch_eq, l1In_eq, Option.bind_some, decide_eq_true_eq]
  refine tite (fun c0 => ?_) (fun c0 => tite (fun c1 => ?_) (fun c1 => hF (fun h => by have := h.1; omega)))
  all_goals
    refine tite (fun c2 => ?_) (fun c2 => hF (fun h => c2 h.2.1))
    refine tite (fun c3 => ?_) (fun c3 => hF (fun h => c3 h.2.2.1))
  · exact hT (.inl c0) c2 c3
  · exact hT (.inr c1) c2 c3
theorem implIsPitch_eq (a : Int) : impl_isPitch.f a = some (decide (24 ≤ a ∧ a ≤ 96)) := by
  unfold impl_isPitch.f
  by_cases h : 24 ≤ a <;> simp [h]
theorem isEvent_tot (a b c : Int) : Tot (fun k => impl_isEvent.f k a b c) (fun r => (r = true) ↔ OkEvent a b c) := by
  have hF : ¬ OkEvent a b c → Tot (fun _ => some false) (fun r => (r = true) ↔ OkEvent a b c) := fun h => tsome ⟨(fun g => by simp at g), (fun g => absurd g h)⟩
  have hT : (a = 0 ∨ (24 ≤ a ∧ a ≤ 96)) → 1 ≤ b → b ≤ 99 → 1 ≤ c → c ≤ 16 → Tot (fun k => (impl_gcd.f k b c).bind fun r => some (r == 1)) (fun r => (r = true) ↔ OkEvent a b c) := by
    intro h1 h2 h3 h4 h5
    refine tbind (gcd_tot b c (by omega) (by omega)) (fun _ e => ?_); subst e
    refine tsome ?_
    rw [beq_iff_eq]
    exact ⟨fun h => ⟨h1, ⟨h2, h3⟩, ⟨h4, h5⟩, by omega⟩, fun h => by have := h.2.2.2; omega⟩
  unfold impl_isEvent.f
  simp only [implIsPitch_eq, Option.bind_some, decide_eq_true_eq]
  refine tite (fun c0 => ?_) (fun c0 => tite (fun c1 => ?_) (fun c1 => hF (fun h => by have := h.1; omega)))
  all_goals
    refine tite (fun c2 => ?_) (fun c2 => hF (fun h => by have := h.2.1; omega))
    refine tite (fun c3 => ?_) (fun c3 => hF (fun h => by have := h.2.1; omega))
    refine tite (fun c4 => ?_) (fun c4 => hF (fun h => by have := h.2.2.1; omega))
    refine tite (fun c5 => ?_) (fun c5 => hF (fun h => by have := h.2.2.1; omega))
  · exact hT (.inl c0) c2 c3 c4 c5
  · exact hT (.inr c1) c2 c3 c4 c5
def VoC (l : List S93) (j : Int) : Prop := OkEvent (rd_T93 l j).f0 (rd_T93 l j).f1 (rd_T93 l j).f2
def VoGood (l : List S93) : Prop := (∀ j : Int, 0 ≤ j → j < (l.length : Int) → VoC l j) ∧ (l.length : Int) ≤ 20

theorem spec_noGood_tot (l : List S93) (hl : l.length ≤ 1048576) : Tot (fun k => spec_noGood.f k l) (fun b => (b = true) ↔ VoGood l) := by
  unfold spec_noGood.f
  refine trec (σ := Int) (fun i k => spec_noGood.l0 k l l (l.length : Int) i) (fun i => ((l.length : Int) - i).toNat) (fun i => 0 ≤ i ∧ i ≤ (l.length : Int))
    (fun i b => (b = true) ↔ ((∀ j : Int, i ≤ j → j < (l.length : Int) → VoC l j) ∧ (l.length : Int) ≤ 20)) ?_ 0 ⟨Int.le_refl _, by omega⟩
  rintro i ⟨h0, h1⟩ ih
  simp only [spec_noGood.l0]
  refine tite (fun c => ?_) (fun c => tsome (all_end c (by simp only [decide_eq_true_eq])))
  refine tpos h0 (tpos c ?_)
  refine tbind (noEvent_tot _ _ _) (fun b hb => ?_)
  refine tite (fun c2 => ?_) (fun c2 => tsome (all_no c (fun h => c2 (hb.2 h))))
  rw [wrap64_id (by omega) (by omega)]
  exact tmono (ih (i + 1) ⟨by omega, by omega⟩ (by (try dsimp only); omega)) (fun b2 hb2 => all_go c (hb.1 c2) hb2)

theorem impl_IsVoice_tot (l : List S93) (hl : l.length ≤ 1048576) : Tot (fun k => impl_IsVoice.f k l) (fun b => (b = true) ↔ VoGood l) := by
  unfold impl_IsVoice.f
  refine trec (σ := Int) (fun i k => impl_IsVoice.l0 k l l (l.length : Int) i) (fun i => ((l.length : Int) - i).toNat) (fun i => 0 ≤ i ∧ i ≤ (l.length : Int))
    (fun i b => (b = true) ↔ ((∀ j : Int, i ≤ j → j < (l.length : Int) → VoC l j) ∧ (l.length : Int) ≤ 20)) ?_ 0 ⟨Int.le_refl _, by omega⟩
  rintro i ⟨h0, h1⟩ ih
  simp only [impl_IsVoice.l0]
  refine tite (fun c => ?_) (fun c => tsome (all_end c (by simp only [decide_eq_true_eq])))
  refine tpos h0 (tpos c ?_)
  refine tbind (isEvent_tot _ _ _) (fun b hb => ?_)
  refine tite (fun c2 => ?_) (fun c2 => tsome (all_no c (fun h => c2 (hb.2 h))))
  rw [wrap64_id (by omega) (by omega)]
  exact tmono (ih (i + 1) ⟨by omega, by omega⟩ (by (try dsimp only); omega)) (fun b2 hb2 => all_go c (hb.1 c2) hb2)

theorem specIsVoice_tot (l : List S93) (hl : l.length ≤ 1048576) : Tot (fun k => spec_IsVoice.f k l) (fun b => (b = true) ↔ VoGood l) := by
  unfold spec_IsVoice.f
  exact tbind (spec_noGood_tot l hl) (fun b hb => tsome hb)


theorem FnExactIsVoice (l0 : List (S95)) (hm0 : l0.length ≤ 9223372036854775807) (hw0 : ∀ y ∈ l0, Glue.wf64 y.f0 ∧ Glue.wf64 y.f1 ∧ Glue.wf64 y.f2) : ∃ k, laws_FnExactIsVoice.f k l0 = some true := by
  refine rounds ?_
  unfold laws_FnExactIsVoice.f
  rw [szEventS _ _ (by omega) (by omega) hm0]
  simp only [Option.bind_some]
  by_cases hl : (1048576 : Int) < (l0.length : Int)
  · simp only [if_pos hl]
    exact tpos (by omega) (tsome rfl)
  · simp only [if_neg hl]
    refine tneg (by omega) ?_
    refine tbind (toEventS l0 (by omega)) (fun _ e => ?_); subst e
    refine tbind (specIsVoice_tot _ (by simp; omega)) (fun b1 h1 => ?_)
    refine tbind (toEventS l0 (by omega)) (fun _ e => ?_); subst e
    refine tbind (impl_IsVoice_tot _ (by simp; omega)) (fun b2 h2 => ?_)
    have e : b2 = b1 := by rw [Bool.eq_iff_iff, h1, h2]
    subst e
    refine tneg (by simp) ?_
    refine tbind (toEventS l0 (by omega)) (fun _ e => ?_); subst e
    refine tbind (eqEventS _ (by simp; omega)) (fun _ e => ?_); subst e
    exact tpos rfl (tsome rfl)
end Go.Proofs.Ytpkklbjdhmpjnaa.Pure
