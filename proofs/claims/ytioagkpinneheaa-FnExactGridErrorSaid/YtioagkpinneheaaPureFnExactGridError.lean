/- The plain side of the law FnExactGridError: lists and numbers alone. -/
import Derived.Test.YtioagkpinneheaaPFnExactGridErrorx4
import Derived.Test.YtioagkpinneheaaGlue
import Derived.Test.YtioagkpinneheaaTot
set_option linter.unusedVariables false
set_option linter.unusedSimpArgs false
namespace Go.Proofs.Ytioagkpinneheaa.Pure
open Go.RowKit Go.Proofs.Ytioagkpinneheaa.PFnExactGridError Go.Proofs.YtioagkpinneheaaW.PrintWords Go.Proofs.YtioagkpinneheaaW.PrintMore Go.Proofs.Ytioagkpinneheaa.Tot

theorem l1In_eq (a b c : Int) : spec_l1In.f a b c = some (decide (b ≤ a ∧ a ≤ c)) := by
  unfold spec_l1In.f
  by_cases h : b ≤ a <;> simp [h]

def cvEvent (x : S104) : S102 := ⟨x.f0, x.f1, x.f2⟩
theorem toEventS (l : List S104) (hl : l.length ≤ 1048576) : Tot (fun k => laws_toEventS.f k l) (fun r => r = l.map cvEvent) := by
  unfold laws_toEventS.f
  refine tpos (by omega) (tpos (by omega) ?_)
  have key := trec (σ := List S102 × Int) (fun s k => laws_toEventS.l0 k l s.1 s.2) (fun s => ((l.length : Int) - s.2).toNat)
    (fun s => 0 ≤ s.2 ∧ s.2 ≤ (l.length : Int) ∧ s.1.length = l.length ∧ ∀ j : Int, 0 ≤ j → j < s.2 → s.1.getD j.toNat z102 = cvEvent (l.getD j.toNat z104)) (fun _ r => r = l.map cvEvent) ?_
  · exact key (List.replicate (l.length : Int).toNat z102, 0) ⟨Int.le_refl _, by dsimp only; omega, by simp, fun j h0 h1 => by dsimp only at h1; omega⟩
  · rintro ⟨ys, i⟩ ⟨h0, h1, h2, h3⟩ ih
    dsimp only at h0 h1 h2 h3
    simp only [laws_toEventS.l0, laws_toEvent.f, Option.bind_some]
    refine tite (fun c => ?_) (fun c => ?_)
    · refine tpos h0 (tpos (by omega) ?_)
      rw [wrap64_id (by omega) (by omega)]
      refine ih (_, i + 1) ⟨by dsimp only; omega, by dsimp only; omega, by simp [h2], ?_⟩ (by dsimp only; omega)
      intro j hj0 hj1
      dsimp only at hj1 ⊢
      by_cases e : j = i
      · subst e; rw [ld_set_self _ _ (by omega) hj0]; rfl
      · rw [ld_set_ne _ _ _ h0 hj0 (by omega)]; exact h3 j hj0 (by omega)
    · exact tsome (write_end h2 (fun j a b => h3 j a (by omega)))

theorem eqEventS (l : List S102) (hl : l.length ≤ 1048576) : Tot (fun k => laws_eqEventS.f k l l) (fun r => r = true) := by
  unfold laws_eqEventS.f
  refine tpos rfl ?_
  refine trec (σ := Int) (fun i k => laws_eqEventS.l0 k l l i) (fun i => ((l.length : Int) - i).toNat) (fun i => 0 ≤ i ∧ i ≤ (l.length : Int)) (fun _ r => r = true) ?_ 0 ⟨Int.le_refl _, by omega⟩
  rintro i ⟨h0, h1⟩ ih
  simp only [laws_eqEventS.l0, laws_eqEvent.f, if_true, Option.bind_some]
  refine tite (fun c => ?_) (fun c => tsome rfl)
  refine tpos h0 (tpos (by omega) ?_)
  rw [wrap64_id (by omega) (by omega)]
  exact ih (i + 1) ⟨by omega, by omega⟩ (by (try dsimp only); omega)

theorem szEventS (l : List S104) (n : Int) (hn : 0 ≤ n) (hn2 : n ≤ 1048576) (hl : l.length ≤ 9223372036854775807) : laws_szEventS.f l n = some (if n < l.length then -1 else n - l.length) := by
  unfold laws_szEventS.f
  simp (disch := omega) only [wrap64_id]
  by_cases h : n < l.length
  · rw [if_pos (by omega), if_pos h]
  · rw [if_neg (by omega), if_neg h]

theorem ntPitch_eq (a : Int) : spec_ntPitch.f a = some (decide (24 ≤ a ∧ a ≤ 96)) := by
  unfold spec_ntPitch.f
  simp only [l1In_eq, Option.bind_some]

theorem gcd_step (a b : Int) (ha : 0 ≤ a) (hb : 0 < b) : 0 ≤ Int.tmod a b ∧ Int.tmod a b < b ∧ Nat.gcd b.toNat (Int.tmod a b).toNat = Nat.gcd a.toNat b.toNat := by
  obtain ⟨m, rfl⟩ := Int.eq_ofNat_of_zero_le ha
  obtain ⟨n, rfl⟩ := Int.eq_ofNat_of_zero_le (Int.le_of_lt hb)
  have e : Int.tmod (m : Int) (n : Int) = ((m % n : Nat) : Int) := rfl
  rw [e]
  have h1 : m % n < n := Nat.mod_lt _ (by omega)
  refine ⟨by omega, by omega, ?_⟩
  simp only [Int.toNat_natCast]
  rw [Nat.gcd_comm m n, Nat.gcd_rec n m, Nat.gcd_comm]
theorem gcd_tot (a b : Int) (ha : 0 ≤ a) (hb : 0 ≤ b) : Tot (fun k => impl_gcd.f k a b) (fun r => r = (Nat.gcd a.toNat b.toNat : Int)) := by
  unfold impl_gcd.f
  refine trec (σ := Int × Int) (fun s k => impl_gcd.l0 k s.1 s.2) (fun s => s.2.toNat) (fun s => 0 ≤ s.1 ∧ 0 ≤ s.2 ∧ Nat.gcd s.1.toNat s.2.toNat = Nat.gcd a.toNat b.toNat) (fun _ r => r = (Nat.gcd a.toNat b.toNat : Int)) ?_ (a, b) ⟨ha, hb, rfl⟩
  rintro ⟨x, y⟩ ⟨hx, hy, hg⟩ ih
  dsimp only at hx hy hg
  simp only [impl_gcd.l0]
  refine tite (fun c => tsome ?_) (fun c => ?_)
  · subst c
    rw [← hg]
    simp
    omega
  · obtain ⟨h1, h2, h3⟩ := gcd_step x y hx (by omega)
    exact ih (y, Int.tmod x y) ⟨hy, h1, by dsimp only; rw [h3, hg]⟩ (by dsimp only; omega)
theorem gcd_pos (a b : Int) (hb : 0 < b) : 0 < (Nat.gcd a.toNat b.toNat : Int) := by
  have : 0 < Nat.gcd a.toNat b.toNat := Nat.gcd_pos_of_pos_right _ (by omega)
  omega
theorem tdiv_eq (a g : Int) (ha : 0 ≤ a) (ha2 : a ≤ 4611686018427387904) (hg : 0 < g) : wrap64 (Int.tdiv a g) = a / g := by
  rw [Int.tdiv_eq_ediv_of_nonneg ha]
  have h1 : 0 ≤ a / g := Int.ediv_nonneg ha (by omega)
  have h2 : a / g ≤ a := Int.ediv_le_self _ ha
  exact wrap64_id (by omega) (by omega)

theorem lowest_tot (a b : Int) (ha : 0 ≤ a) (ha2 : a ≤ 4611686018427387904) (hb : 0 < b) (hb2 : b ≤ 4611686018427387904) : Tot (fun k => impl_lowest.f k a b) (fun r => r = (a / (Nat.gcd a.toNat b.toNat : Int), b / (Nat.gcd a.toNat b.toNat : Int))) := by
  unfold impl_lowest.f
  refine tbind (gcd_tot a b ha (by omega)) (fun _ e => ?_); subst e
  have hg := gcd_pos a b hb
  refine tneg (by omega) ?_
  exact tsome (by rw [tdiv_eq a _ ha ha2 hg, tdiv_eq b _ (by omega) hb2 hg])

theorem noPart_tot (a b : Int) (ha : 0 ≤ a) (ha2 : a ≤ 4611686018427387904) (hb : 0 < b) (hb2 : b ≤ 4611686018427387904) : Tot (fun k => spec_noPart.f k a b) (fun r => r = (a / (Nat.gcd a.toNat b.toNat : Int), b / (Nat.gcd a.toNat b.toNat : Int))) := by
  unfold spec_noPart.f
  have habs : spec_l1Abs.f a = some a := by
    unfold spec_l1Abs.f spec_l1Most.f
    rw [wrap64_id (by omega) (by omega)]
    by_cases h : a > -a
    · rw [if_pos h]; rfl
    · rw [if_neg h]
      have : -a = a := by omega
      rw [this]; rfl
  rw [habs]
  simp only [Option.bind_some]
  have hg := gcd_pos a b hb
  refine trec (σ := Int × Int) (fun s k => spec_noPart.l0 k a b s.1 s.2) (fun s => s.2.toNat) (fun s => 0 ≤ s.1 ∧ 0 ≤ s.2 ∧ Nat.gcd s.1.toNat s.2.toNat = Nat.gcd a.toNat b.toNat) (fun _ r => r = (a / (Nat.gcd a.toNat b.toNat : Int), b / (Nat.gcd a.toNat b.toNat : Int))) ?_ (a, b) ⟨ha, by dsimp only; omega, rfl⟩
  rintro ⟨x, y⟩ ⟨hx, hy, hgx⟩ ih
  dsimp only at hx hy hgx
  simp only [spec_noPart.l0]
  refine tite (fun c => ?_) (fun c => ?_)
  · refine tneg (by omega) ?_
    obtain ⟨h1, h2, h3⟩ := gcd_step x y hx c
    exact ih (y, Int.tmod x y) ⟨hy, h1, by dsimp only; rw [h3, hgx]⟩ (by dsimp only; omega)
  · obtain rfl : y = 0 := by omega
    have e : x = (Nat.gcd a.toNat b.toNat : Int) := by
      rw [← hgx]; simp; omega
    refine tneg (by omega) ?_
    exact tsome (by rw [e, tdiv_eq a _ ha ha2 hg, tdiv_eq b _ (by omega) hb2 hg])

def OkEvent (a b c : Int) : Prop := (a = 0 ∨ (24 ≤ a ∧ a ≤ 96)) ∧ (1 ≤ b ∧ b ≤ 99) ∧ (1 ≤ c ∧ c ≤ 16) ∧ Nat.gcd b.toNat c.toNat = 1
theorem div_one {b g : Int} (hb : 0 < b) (hg : 0 < g) : b / g = b ↔ g = 1 := by
  constructor
  · intro h
    by_cases h1 : 1 < g
    · have h2 : b / g < b := by
        apply Int.ediv_lt_of_lt_mul hg
        have : b * 2 ≤ b * g := Int.mul_le_mul_of_nonneg_left (by omega) (by omega)
        omega
      omega
    · omega
  · intro h; subst h; simp
theorem noEvent_tot (a b c : Int) : Tot (fun k => spec_noEvent.f k a b c) (fun r => (r = true) ↔ OkEvent a b c) := by
  have hF : ¬ OkEvent a b c → Tot (fun _ => some false) (fun r => (r = true) ↔ OkEvent a b c) := fun h => tsome ⟨(fun g => by simp at g), (fun g => absurd g h)⟩
  have hT : (a = 0 ∨ (24 ≤ a ∧ a ≤ 96)) → (1 ≤ b ∧ b ≤ 99) → (1 ≤ c ∧ c ≤ 16) → Tot (fun k => (spec_noPart.f k b c).bind fun r => some (r.2 == c)) (fun r => (r = true) ↔ OkEvent a b c) := by
    intro h1 h2 h3
    refine tbind (noPart_tot b c (by omega) (by omega) (by omega) (by omega)) (fun _ e => ?_); subst e
    refine tsome ?_
    dsimp only
    rw [beq_iff_eq, div_one (by omega) (gcd_pos b c (by omega))]
    exact ⟨fun h => ⟨h1, h2, h3, by omega⟩, fun h => by have := h.2.2.2; omega⟩
  unfold spec_noEvent.f
  simp only [ntPitch_eq, l1In_eq, Option.bind_some, decide_eq_true_eq]
  refine tite (fun c0 => ?_) (fun c0 => tite (fun c1 => ?_) (fun c1 => hF (fun h => by have := h.1; omega)))
  all_goals
    refine tite (fun c2 => ?_) (fun c2 => hF (fun h => c2 h.2.1))
    refine tite (fun c3 => ?_) (fun c3 => hF (fun h => c3 h.2.2.1))
  · exact hT (.inl c0) c2 c3
  · exact hT (.inr c1) c2 c3
theorem implIsPitch_eq (a : Int) : impl_isPitch.f a = some (decide (24 ≤ a ∧ a ≤ 96)) := by
  unfold impl_isPitch.f
  by_cases h : 24 ≤ a <;> simp [h]
theorem isEvent_tot (a b c : Int) : Tot (fun k => impl_isEvent.f k a b c) (fun r => (r = true) ↔ OkEvent a b c) := by
  have hF : ¬ OkEvent a b c → Tot (fun _ => some false) (fun r => (r = true) ↔ OkEvent a b c) := fun h => tsome ⟨(fun g => by simp at g), (fun g => absurd g h)⟩
  have hT : (a = 0 ∨ (24 ≤ a ∧ a ≤ 96)) → 1 ≤ b → b ≤ 99 → 1 ≤ c → c ≤ 16 → Tot (fun k => (impl_gcd.f k b c).bind fun r => some (r == 1)) (fun r => (r = true) ↔ OkEvent a b c) := by
    intro h1 h2 h3 h4 h5
    refine tbind (gcd_tot b c (by omega) (by omega)) (fun _ e => ?_); subst e
    refine tsome ?_
    rw [beq_iff_eq]
    exact ⟨fun h => ⟨h1, ⟨h2, h3⟩, ⟨h4, h5⟩, by omega⟩, fun h => by have := h.2.2.2; omega⟩
  unfold impl_isEvent.f
  simp only [implIsPitch_eq, Option.bind_some, decide_eq_true_eq]
  refine tite (fun c0 => ?_) (fun c0 => tite (fun c1 => ?_) (fun c1 => hF (fun h => by have := h.1; omega)))
  all_goals
    refine tite (fun c2 => ?_) (fun c2 => hF (fun h => by have := h.2.1; omega))
    refine tite (fun c3 => ?_) (fun c3 => hF (fun h => by have := h.2.1; omega))
    refine tite (fun c4 => ?_) (fun c4 => hF (fun h => by have := h.2.2.1; omega))
    refine tite (fun c5 => ?_) (fun c5 => hF (fun h => by have := h.2.2.1; omega))
  · exact hT (.inl c0) c2 c3 c4 c5
  · exact hT (.inr c1) c2 c3 c4 c5
def VoC (l : List S102) (j : Int) : Prop := OkEvent (rd_T102 l j).f0 (rd_T102 l j).f1 (rd_T102 l j).f2
def VoGood (l : List S102) : Prop := (∀ j : Int, 0 ≤ j → j < (l.length : Int) → VoC l j) ∧ (l.length : Int) ≤ 20

theorem spec_noGood_tot (l : List S102) (hl : l.length ≤ 1048576) : Tot (fun k => spec_noGood.f k l) (fun b => (b = true) ↔ VoGood l) := by
  unfold spec_noGood.f
  refine trec (σ := Int) (fun i k => spec_noGood.l0 k l l (l.length : Int) i) (fun i => ((l.length : Int) - i).toNat) (fun i => 0 ≤ i ∧ i ≤ (l.length : Int))
    (fun i b => (b = true) ↔ ((∀ j : Int, i ≤ j → j < (l.length : Int) → VoC l j) ∧ (l.length : Int) ≤ 20)) ?_ 0 ⟨Int.le_refl _, by omega⟩
  rintro i ⟨h0, h1⟩ ih
  simp only [spec_noGood.l0]
  refine tite (fun c => ?_) (fun c => tsome (all_end c (by simp only [decide_eq_true_eq])))
  refine tpos h0 (tpos c ?_)
  refine tbind (noEvent_tot _ _ _) (fun b hb => ?_)
  refine tite (fun c2 => ?_) (fun c2 => tsome (all_no c (fun h => c2 (hb.2 h))))
  rw [wrap64_id (by omega) (by omega)]
  exact tmono (ih (i + 1) ⟨by omega, by omega⟩ (by (try dsimp only); omega)) (fun b2 hb2 => all_go c (hb.1 c2) hb2)

theorem impl_IsVoice_tot (l : List S102) (hl : l.length ≤ 1048576) : Tot (fun k => impl_IsVoice.f k l) (fun b => (b = true) ↔ VoGood l) := by
  unfold impl_IsVoice.f
  refine trec (σ := Int) (fun i k => impl_IsVoice.l0 k l l (l.length : Int) i) (fun i => ((l.length : Int) - i).toNat) (fun i => 0 ≤ i ∧ i ≤ (l.length : Int))
    (fun i b => (b = true) ↔ ((∀ j : Int, i ≤ j → j < (l.length : Int) → VoC l j) ∧ (l.length : Int) ≤ 20)) ?_ 0 ⟨Int.le_refl _, by omega⟩
  rintro i ⟨h0, h1⟩ ih
  simp only [impl_IsVoice.l0]
  refine tite (fun c => ?_) (fun c => tsome (all_end c (by simp only [decide_eq_true_eq])))
  refine tpos h0 (tpos c ?_)
  refine tbind (isEvent_tot _ _ _) (fun b hb => ?_)
  refine tite (fun c2 => ?_) (fun c2 => tsome (all_no c (fun h => c2 (hb.2 h))))
  rw [wrap64_id (by omega) (by omega)]
  exact tmono (ih (i + 1) ⟨by omega, by omega⟩ (by (try dsimp only); omega)) (fun b2 hb2 => all_go c (hb.1 c2) hb2)

theorem l1Most_eq (a b : Int) : spec_l1Most.f a b = some (mx a b) := by
  unfold spec_l1Most.f mx
  by_cases h : a > b
  · rw [if_pos h, if_neg (by omega)]
  · rw [if_neg h]
    by_cases h2 : a < b
    · rw [if_pos h2]
    · rw [if_neg h2]
      congr 1; omega

def voT (l : List S102) : Nat → Nat
  | 0 => 0
  | i + 1 => voT l i + (rd_T102 l i).f1.toNat * (720720 / (rd_T102 l i).f2.toNat)
theorem den_div (d : Nat) (h0 : 1 ≤ d) (h : d ≤ 16) : 720720 / d * d = 720720 := by
  have key : ∀ d : Nat, d < 17 → 0 < d → 720720 / d * d = 720720 := by decide
  exact key d (by omega) (by omega)
theorem den_le (d : Nat) : 720720 / d ≤ 720720 := Nat.div_le_self _ _
structure EvN (l : List S102) (i n d : Nat) : Prop where
  num : (rd_T102 l i).f1 = (n : Int)
  den : (rd_T102 l i).f2 = (d : Int)
  n1 : 1 ≤ n
  n2 : n ≤ 99
  d1 : 1 ≤ d
  d2 : d ≤ 16
theorem evN {l : List S102} {i : Nat} (h : VoC l i) : ∃ n d, EvN l i n d := by
  unfold VoC OkEvent at h
  exact ⟨(rd_T102 l i).f1.toNat, (rd_T102 l i).f2.toNat, ⟨by omega, by omega, by omega, by omega, by omega, by omega⟩⟩
theorem voT_succ {l : List S102} {i n d : Nat} (h : EvN l i n d) : voT l (i + 1) = voT l i + n * (720720 / d) := by
  conv => lhs; unfold voT
  rw [h.num, h.den, Int.toNat_natCast, Int.toNat_natCast]
def VoAll (l : List S102) : Prop := ∀ j : Int, 0 ≤ j → j < (l.length : Int) → VoC l j
theorem mul99 {n x : Nat} (hn : n ≤ 99) (hx : x ≤ 720720) : n * x ≤ 71351280 := by
  have h1 : n * x ≤ 99 * x := Nat.mul_le_mul_right _ hn
  omega
theorem voT_le {l : List S102} (hv : VoAll l) (i : Nat) (hi : i ≤ l.length) : voT l i ≤ i * 71351280 := by
  induction i with
  | zero => simp [voT]
  | succ i ih =>
    obtain ⟨n, d, h⟩ := evN (hv i (by omega) (by omega))
    rw [voT_succ h]
    have := ih (by omega)
    have := mul99 h.n2 (den_le d)
    omega
theorem rd_take {l : List S102} (i j : Nat) (h : j < i) : rd_T102 (l.take i) (j : Int) = rd_T102 l (j : Int) := by
  unfold rd_T102
  exact ld_take i (j : Int) (by omega) (by omega)
theorem voT_take {l : List S102} (i j : Nat) (h : j ≤ i) : voT (l.take i) j = voT l j := by
  induction j with
  | zero => rfl
  | succ j ih =>
    unfold voT
    rw [ih (by omega), rd_take i j (by omega)]
theorem VoAll.take {l : List S102} (hv : VoAll l) (i : Nat) : VoAll (l.take i) := by
  intro j h0 h1
  obtain ⟨m, rfl⟩ := Int.eq_ofNat_of_zero_le h0
  simp at h1
  have := hv m h0 (by omega)
  unfold VoC at this ⊢
  rw [rd_take i m (by omega)]
  exact this
/-- A fraction in lowest terms. -/
def low (p q : Nat) : Int × Int := (((p / Nat.gcd p q : Nat) : Int), ((q / Nat.gcd p q : Nat) : Int))
theorem low_eq (p q : Nat) : ((p : Int) / (Nat.gcd (p : Int).toNat (q : Int).toNat : Int), (q : Int) / (Nat.gcd (p : Int).toNat (q : Int).toNat : Int)) = low p q := by
  unfold low
  simp only [Int.toNat_natCast, Int.natCast_ediv]
theorem low_scale (p q s : Nat) (hs : 0 < s) : low (p * s) (q * s) = low p q := by
  unfold low
  rw [Nat.gcd_mul_right, Nat.mul_div_mul_right _ _ hs, Nat.mul_div_mul_right _ _ hs]
theorem low_unique {p q r s : Nat} (hq : 0 < q) (hs : 0 < s) (h : p * s = r * q) : low p q = low r s := by
  rw [← low_scale p q s hs, ← low_scale r s q hq, h, Nat.mul_comm q s]
structure LowN (p q a b g : Nat) : Prop where
  e : low p q = ((a : Int), (b : Int))
  p : p = a * g
  q : q = b * g
  g : 0 < g
theorem lowN (p q : Nat) (hq : 0 < q) : ∃ a b g, LowN p q a b g := by
  have hg : 0 < Nat.gcd p q := Nat.gcd_pos_of_pos_right _ hq
  exact ⟨p / Nat.gcd p q, q / Nat.gcd p q, Nat.gcd p q, ⟨rfl, (Nat.div_mul_cancel (Nat.gcd_dvd_left p q)).symm, (Nat.div_mul_cancel (Nat.gcd_dvd_right p q)).symm, hg⟩⟩
theorem LowN.b_pos {p q a b g : Nat} (h : LowN p q a b g) (hq : 0 < q) : 0 < b := by
  rcases Nat.eq_zero_or_pos b with h0 | h0
  · have := h.q
    rw [h0, Nat.zero_mul] at this
    omega
  · exact h0
theorem LowN.le {p q a b g : Nat} (h : LowN p q a b g) : a ≤ p ∧ b ≤ q := by
  have h1 : a * 1 ≤ a * g := Nat.mul_le_mul_left _ h.g
  have h2 : b * 1 ≤ b * g := Nat.mul_le_mul_left _ h.g
  rw [h.p, h.q]
  omega
theorem low_step {t a b g n d : Nat} (h : LowN t 720720 a b g) (hd1 : 1 ≤ d) (hd2 : d ≤ 16) : low (a * d + n * b) (b * d) = low (t + n * (720720 / d)) 720720 := by
  have hb := h.b_pos (by omega)
  refine low_unique (Nat.mul_pos hb (by omega)) (by omega) ?_
  have hw := h.q
  have hdd := den_div d hd1 hd2
  obtain ⟨x, hx⟩ : ∃ x, x = 720720 / d := ⟨_, rfl⟩
  rw [← hx] at hdd ⊢
  rw [h.p]
  calc (a * d + n * b) * 720720 = a * d * 720720 + n * b * 720720 := Nat.add_mul _ _ _
    _ = a * d * (b * g) + n * b * (x * d) := by rw [← hw, hdd]
    _ = a * g * (b * d) + n * x * (b * d) := by
      congr 1
      · ac_rfl
      · ac_rfl
    _ = (a * g + n * x) * (b * d) := (Nat.add_mul _ _ _).symm
theorem noPartN_tot (p q : Nat) (hp : p ≤ 4611686018427387904) (hq : 0 < q) (hq2 : q ≤ 4611686018427387904) (x y : Int) (hx : x = (p : Int)) (hy : y = (q : Int)) : Tot (fun k => spec_noPart.f k x y) (fun r => r = low p q) := by
  subst hx; subst hy
  have := noPart_tot (p : Int) (q : Int) (by omega) (by omega) (by omega) (by omega)
  rw [low_eq] at this
  exact this

theorem lowestN_tot (p q : Nat) (hp : p ≤ 4611686018427387904) (hq : 0 < q) (hq2 : q ≤ 4611686018427387904) (x y : Int) (hx : x = (p : Int)) (hy : y = (q : Int)) : Tot (fun k => impl_lowest.f k x y) (fun r => r = low p q) := by
  subst hx; subst hy
  have := lowest_tot (p : Int) (q : Int) (by omega) (by omega) (by omega) (by omega)
  rw [low_eq] at this
  exact this

theorem noSum_tot (l : List S102) (hv : VoAll l) (hl : l.length ≤ 20) : Tot (fun k => spec_noSum.f k l) (fun r => r = low (voT l l.length) 720720) := by
  unfold spec_noSum.f
  have key := trec (σ := Nat) (fun i k => spec_noSum.l0 k (low (voT l i) 720720).1 (low (voT l i) 720720).2 l (l.length : Int) (i : Int)) (fun i => l.length - i) (fun i => i ≤ l.length) (fun _ r => r = low (voT l l.length) 720720) ?_ 0 (Nat.zero_le _)
  · have e : low (voT l 0) 720720 = (0, 1) := by simp [low, voT]
    rw [e] at key
    exact key
  · intro i hi ih
    obtain ⟨a, b, g, h⟩ := lowN (voT l i) 720720 (by omega)
    have hb := h.b_pos (by omega)
    have hle := h.le
    have ht := voT_le hv i hi
    rw [h.e]
    simp only [spec_noSum.l0, wrap64_id (x := (i : Int) + 1) (by omega) (by omega)]
    refine tite (fun c => ?_) (fun c => tsome (by rw [show l.length = i by omega, h.e]))
    refine tpos (by omega) (tpos c ?_)
    obtain ⟨n, d, hn⟩ := evN (hv i (by omega) c)
    rw [hn.num, hn.den]
    have hd := hn.d2
    have hn2 := hn.n2
    have b1 : a * d ≤ 1427025600 * 16 := Nat.mul_le_mul (by omega) hd
    have b2 : n * b ≤ 99 * 720720 := Nat.mul_le_mul hn2 (by omega)
    have b3 : b * d ≤ 720720 * 16 := Nat.mul_le_mul (by omega) hd
    have e1 : (a : Int) * (d : Int) = ((a * d : Nat) : Int) := by simp
    have e2 : (n : Int) * (b : Int) = ((n * b : Nat) : Int) := by simp
    have e3 : (b : Int) * (d : Int) = ((b * d : Nat) : Int) := by simp
    rw [e1, e2, e3, wrap64_id (x := ((a * d : Nat) : Int)) (by omega) (by omega), wrap64_id (x := ((n * b : Nat) : Int)) (by omega) (by omega), wrap64_id (x := ((b * d : Nat) : Int)) (by omega) (by omega), wrap64_id (x := ((a * d : Nat) : Int) + ((n * b : Nat) : Int)) (by omega) (by omega)]
    refine tbind (noPartN_tot (a * d + n * b) (b * d) (by omega) (Nat.mul_pos hb hn.d1) (by omega) _ _ (by omega) rfl) (fun _ e => ?_); subst e
    rw [low_step h hn.d1 hn.d2, ← voT_succ hn]
    have := ih (i + 1) (by omega) (by omega)
    simpa using this
theorem noSumTake_tot (l : List S102) (hv : VoAll l) (hl : l.length ≤ 20) (i : Nat) (hi : i ≤ l.length) : Tot (fun k => spec_noSum.f k (l.take i)) (fun r => r = low (voT l i) 720720) := by
  have h := noSum_tot (l.take i) (hv.take i) (by simp; omega)
  rw [show (l.take i).length = i by simp; omega, voT_take i i (Nat.le_refl _)] at h
  exact h

def times (l : List S102) (n : Nat) : List Int := (List.range (n + 1)).map fun j => ((voT l j : Nat) : Int)
theorem times_at (l : List S102) (n i : Nat) (h : i ≤ n) : rd (times l n) (i : Int) = (voT l i : Int) := by
  unfold rd times
  have : i < n + 1 := by omega
  simp [List.getD, this]
theorem times_len (l : List S102) (n : Nat) : (times l n).length = n + 1 := by simp [times]
theorem voiceTimes_tot (l : List S102) (hv : VoAll l) (hl : l.length ≤ 20) : Tot (fun k => impl_voiceTimes.f k l) (fun r => r = times l l.length) := by
  unfold impl_voiceTimes.f
  refine trec (σ := Nat) (fun i k => impl_voiceTimes.l0 k (times l i) ((voT l i : Nat) : Int) l (l.length : Int) (i : Int)) (fun i => l.length - i) (fun i => i ≤ l.length) (fun _ r => r = times l l.length) ?_ 0 (Nat.zero_le _)
  intro i hi ih
  have ht := voT_le hv i hi
  simp only [impl_voiceTimes.l0, wrap64_id (x := (i : Int) + 1) (by omega) (by omega)]
  refine tite (fun c => ?_) (fun c => tsome (by rw [show l.length = i by omega]))
  refine tpos (by omega) (tpos c ?_)
  obtain ⟨n, d, hn⟩ := evN (hv i (by omega) c)
  rw [hn.num, hn.den]
  have h1 := hn.d1
  refine tneg (by omega) ?_
  refine tpos (by rw [times_len]; omega) ?_
  have e0 : Int.tdiv 720720 (d : Int) = ((720720 / d : Nat) : Int) := rfl
  have hsucc := voT_succ hn
  have b0 := den_le d
  have b1 := mul99 hn.n2 b0
  obtain ⟨q, hq⟩ : ∃ q, q = 720720 / d := ⟨_, rfl⟩
  rw [← hq] at e0 hsucc b0 b1
  have e2 : (n : Int) * (q : Int) = ((n * q : Nat) : Int) := by simp
  rw [e0, wrap64_id (x := (q : Int)) (by omega) (by omega), e2, wrap64_id (x := ((n * q : Nat) : Int)) (by omega) (by omega), wrap64_id (x := ((voT l i : Nat) : Int) + ((n * q : Nat) : Int)) (by omega) (by omega)]
  have e3 : ((voT l i : Nat) : Int) + ((n * q : Nat) : Int) = ((voT l (i + 1) : Nat) : Int) := by rw [hsucc]; omega
  rw [e3]
  have e4 : times l i ++ [((voT l (i + 1) : Nat) : Int)] = times l (i + 1) := by
    unfold times
    rw [List.range_succ (n := i + 1), List.map_append]
    rfl
  rw [e4]
  have := ih (i + 1) (by omega) (by omega)
  simpa using this

theorem noGrid_eq (a : Int) : spec_noGrid.f a = some (decide (1 ≤ a ∧ a ≤ 48)) := by
  unfold spec_noGrid.f
  simp only [l1In_eq, Option.bind_some]
theorem isGrid_eq (a : Int) : impl_isGrid.f a = some (decide (1 ≤ a ∧ a ≤ 48)) := by
  unfold impl_isGrid.f
  by_cases h : 1 ≤ a <;> simp [h]

def stepN (t g : Nat) : Nat := (2 * t * g + 720720) / 1441440
theorem tdivN (x y : Nat) : Int.tdiv (x : Int) (y : Int) = ((x / y : Nat) : Int) := rfl
theorem stepN_le (t g : Nat) (ht : t ≤ 1427025600) (hg : g ≤ 48) : 2 * t * g ≤ 136994457600 ∧ stepN t g ≤ 136995178320 := by
  have h1 : 2 * t * g ≤ 2 * 1427025600 * 48 := Nat.mul_le_mul (by omega) hg
  unfold stepN
  have h2 : (2 * t * g + 720720) / 1441440 ≤ 2 * t * g + 720720 := Nat.div_le_self _ _
  omega
theorem roundedStep_eq (t g : Nat) (ht : t ≤ 1427025600) (hg : g ≤ 48) : impl_roundedStep.f (t : Int) (g : Int) = some ((stepN t g : Nat) : Int) := by
  have hb := stepN_le t g ht hg
  unfold impl_roundedStep.f
  have e1 : (2 : Int) * (t : Int) = ((2 * t : Nat) : Int) := by simp
  have e2 : ((2 * t : Nat) : Int) * (g : Int) = ((2 * t * g : Nat) : Int) := by simp
  have e3 : ((2 * t * g : Nat) : Int) + 720720 = ((2 * t * g + 720720 : Nat) : Int) := by simp
  have e4 : (1441440 : Int) = ((1441440 : Nat) : Int) := rfl
  rw [e1, wrap64_id (x := ((2 * t : Nat) : Int)) (by omega) (by omega), e2, wrap64_id (x := ((2 * t * g : Nat) : Int)) (by omega) (by omega), e3, wrap64_id (x := ((2 * t * g + 720720 : Nat) : Int)) (by omega) (by omega), e4, tdivN]
  unfold stepN at hb ⊢
  rw [wrap64_id (by omega) (by omega)]
theorem step_low {t a b gg g : Nat} (h : LowN t 720720 a b gg) : (2 * a * g + b) / (2 * b) = stepN t g := by
  unfold stepN
  rw [← Nat.mul_div_mul_right _ _ h.g]
  congr 1
  · rw [Nat.add_mul, ← h.q, h.p]
    congr 1
    ac_rfl
  · rw [Nat.mul_assoc, ← h.q]
theorem noStep_tot (l : List S102) (hv : VoAll l) (hl : l.length ≤ 20) (i g : Nat) (hi : i ≤ l.length) (hg : g ≤ 48) : Tot (fun k => spec_noStep.f k l (i : Int) (g : Int)) (fun r => r = ((stepN (voT l i) g : Nat) : Int)) := by
  unfold spec_noStep.f
  refine tpos (by omega) (tpos (by omega) ?_)
  rw [Int.toNat_natCast]
  refine tbind (noSumTake_tot l hv hl i hi) (fun _ e => ?_); subst e
  obtain ⟨a, b, gg, h⟩ := lowN (voT l i) 720720 (by omega)
  have hb := h.b_pos (by omega)
  have hle := h.le
  have ht := voT_le hv i hi
  have hs := stepN_le (voT l i) g (by omega) hg
  rw [h.e]
  dsimp only
  have b1 : 2 * a * g ≤ 2 * 1427025600 * 48 := Nat.mul_le_mul (by omega) hg
  have e1 : (2 : Int) * (a : Int) = ((2 * a : Nat) : Int) := by simp
  have e2 : ((2 * a : Nat) : Int) * (g : Int) = ((2 * a * g : Nat) : Int) := by simp
  have e3 : ((2 * a * g : Nat) : Int) + (b : Int) = ((2 * a * g + b : Nat) : Int) := by simp
  have e4 : (2 : Int) * (b : Int) = ((2 * b : Nat) : Int) := by simp
  rw [e4, wrap64_id (x := ((2 * b : Nat) : Int)) (by omega) (by omega)]
  refine tneg (by omega) (tsome ?_)
  rw [e1, wrap64_id (x := ((2 * a : Nat) : Int)) (by omega) (by omega), e2, wrap64_id (x := ((2 * a * g : Nat) : Int)) (by omega) (by omega), e3, wrap64_id (x := ((2 * a * g + b : Nat) : Int)) (by omega) (by omega), tdivN, step_low h, wrap64_id (by omega) (by omega)]

def errN (t g : Nat) : Nat := ((t * g : Nat) : Int) - ((stepN t g * 720720 : Nat) : Int) |>.natAbs
theorem errN_int (t g : Nat) : ((errN t g : Nat) : Int) = mx (((t * g : Nat) : Int) - ((stepN t g * 720720 : Nat) : Int)) (-(((t * g : Nat) : Int) - ((stepN t g * 720720 : Nat) : Int))) := by
  unfold errN mx
  split <;> omega
def worstN (l : List S102) (g : Nat) : Nat → Nat
  | 0 => 0
  | i + 1 => max (worstN l g i) (errN (voT l i) g)
theorem errN_le (t g : Nat) (ht : t ≤ 1427025600) (hg : g ≤ 48) : errN t g ≤ 200000000000 ∧ t * g ≤ 68497228800 ∧ stepN t g ≤ 95041 := by
  have h1 : t * g ≤ 1427025600 * 48 := Nat.mul_le_mul ht hg
  have h2 : stepN t g * 1441440 ≤ 2 * t * g + 720720 := by unfold stepN; exact Nat.div_mul_le_self _ _
  rw [Nat.mul_assoc] at h2
  have e := errN_int t g
  unfold mx at e
  generalize errN t g = u at *
  generalize stepN t g = s at *
  generalize t * g = m at *
  have h1 : m ≤ 68497228800 := h1
  have h4 : s ≤ 95041 := by clear e; omega
  clear h2
  refine ⟨?_, h1, h4⟩
  split at e <;> omega
theorem scale_abs (A B gg : Nat) : ((A : Int) - (B : Int)).natAbs * gg = (((A * gg : Nat) : Int) - ((B * gg : Nat) : Int)).natAbs := by
  rw [Int.natCast_mul, Int.natCast_mul, ← Int.sub_mul, Int.natAbs_mul, Int.natAbs_natCast]
theorem err_scale (v g s w a b gg : Nat) (hp : v = a * gg) (hq : w = b * gg) : (((a * g * gg : Nat) : Int) - ((b * s * gg : Nat) : Int)).natAbs = (((v * g : Nat) : Int) - ((s * w : Nat) : Int)).natAbs := by
  subst hp hq
  rw [show a * g * gg = a * gg * g by ac_rfl, show b * s * gg = s * (b * gg) by ac_rfl]
theorem natAbs_le (D : Int) (h0 : -1000000000000 ≤ D) (h1 : D ≤ 1000000000000) : D.natAbs ≤ 1000000000000 := by omega
theorem l1Abs_nat (D : Int) (h0 : -1000000000000 ≤ D) (h1 : D ≤ 1000000000000) : spec_l1Abs.f D = some ((D.natAbs : Nat) : Int) := by
  unfold spec_l1Abs.f
  rw [l1Most_eq, wrap64_id (by omega) (by omega)]
  simp only [Option.bind_some]
  congr 1
  unfold mx
  split <;> omega
theorem mx_max (W E : Nat) (D : Int) (e : (E : Int) = mx D (-D)) : mx (mx (W : Int) D) (-D) = ((max W E : Nat) : Int) := by
  unfold mx at *
  rcases Nat.le_total W E with h | h
  · rw [Nat.max_eq_right h]
    split at e <;> (repeat' split) <;> omega
  · rw [Nat.max_eq_left h]
    split at e <;> (repeat' split) <;> omega
theorem worstN_le {l : List S102} (hv : VoAll l) (hl : l.length ≤ 20) (g : Nat) (hg : g ≤ 48) (i : Nat) (hi : i ≤ l.length) : worstN l g i ≤ 200000000000 := by
  induction i with
  | zero => simp [worstN]
  | succ i ih =>
    have h1 := ih (by omega)
    have ht := voT_le hv i (by omega)
    have h2 := (errN_le (voT l i) g (by omega) hg).1
    unfold worstN
    omega
theorem implErr_tot (l : List S102) (hv : VoAll l) (hl : l.length ≤ 20) (g : Nat) (hg : g ≤ 48) (ys : List Int) (hy : ys.length = l.length) (hr : ∀ i : Nat, i < l.length → rd ys (i : Int) = (voT l i : Int)) :
    Tot (fun k => impl_GridError.l0 k (g : Int) 0 ys (ys.length : Int) 0) (fun r => r = ((low (worstN l g l.length) 720720).1, (low (worstN l g l.length) 720720).2, true)) := by
  rw [hy]
  refine trec (σ := Nat) (fun i k => impl_GridError.l0 k (g : Int) ((worstN l g i : Nat) : Int) ys (l.length : Int) (i : Int)) (fun i => l.length - i) (fun i => i ≤ l.length) (fun _ r => r = ((low (worstN l g l.length) 720720).1, (low (worstN l g l.length) 720720).2, true)) ?_ 0 (Nat.zero_le _)
  intro i hi ih
  have hw := worstN_le hv hl g hg i hi
  simp only [impl_GridError.l0, hy, wrap64_id (x := (i : Int) + 1) (by omega) (by omega)]
  refine tite (fun c => ?_) (fun c => ?_)
  · refine tpos (by omega) (tpos c ?_)
    have ht := voT_le hv i (by omega)
    have hE := errN_le (voT l i) g (by omega) hg
    rw [hr i (by omega), roundedStep_eq _ _ (by omega) hg]
    simp only [Option.bind_some]
    have e1 : (voT l i : Int) * (g : Int) = ((voT l i * g : Nat) : Int) := by simp
    have e2 : ((stepN (voT l i) g : Nat) : Int) * 720720 = ((stepN (voT l i) g * 720720 : Nat) : Int) := by simp
    rw [e1, e2, wrap64_id (x := ((voT l i * g : Nat) : Int)) (by omega) (by omega), wrap64_id (x := ((stepN (voT l i) g * 720720 : Nat) : Int)) (by omega) (by omega),
      wrap64_id (x := ((voT l i * g : Nat) : Int) - ((stepN (voT l i) g * 720720 : Nat) : Int)) (by omega) (by omega), wrap64_id (x := -(((voT l i * g : Nat) : Int) - ((stepN (voT l i) g * 720720 : Nat) : Int))) (by omega) (by omega)]
    have e3 : mx (mx ((worstN l g i : Nat) : Int) (((voT l i * g : Nat) : Int) - ((stepN (voT l i) g * 720720 : Nat) : Int))) (-(((voT l i * g : Nat) : Int) - ((stepN (voT l i) g * 720720 : Nat) : Int))) = ((worstN l g (i + 1) : Nat) : Int) := by
      rw [show worstN l g (i + 1) = max (worstN l g i) (errN (voT l i) g) from rfl]
      exact mx_max _ _ _ (errN_int (voT l i) g)
    rw [e3]
    have := ih (i + 1) (by omega) (by omega)
    simpa using this
  · obtain rfl : i = l.length := by omega
    refine tbind (lowestN_tot (worstN l g l.length) 720720 (by omega) (by omega) (by omega) _ _ rfl rfl) (fun _ e => ?_); subst e
    exact tsome rfl
theorem low_lt {p q w : Nat} (hw : 0 < w) {a b gg c d hh : Nat} (h1 : LowN p w a b gg) (h2 : LowN q w c d hh) : c * b < a * d ↔ q < p := by
  have e1 : a * d * (gg * hh) = p * w := by
    rw [h1.p]
    conv => rhs; rw [h2.q]
    ac_rfl
  have e2 : c * b * (gg * hh) = q * w := by
    rw [h2.p]
    conv => rhs; rw [h1.q]
    ac_rfl
  have hp : 0 < gg * hh := Nat.mul_pos h1.g h2.g
  rw [← Nat.mul_lt_mul_right hp, e1, e2, Nat.mul_lt_mul_right hw]
theorem specErr_tot (l : List S102) (hv : VoAll l) (hl : l.length ≤ 20) (g : Nat) (hg : g ≤ 48) : Tot (fun k => spec_GridError.l0 k l (g : Int) 0 1 (l.length : Int) 0) (fun r => r = ((low (worstN l g l.length) 720720).1, (low (worstN l g l.length) 720720).2, true)) := by
  have key := trec (σ := Nat) (fun i k => spec_GridError.l0 k l (g : Int) (low (worstN l g i) 720720).1 (low (worstN l g i) 720720).2 (l.length : Int) (i : Int)) (fun i => l.length - i) (fun i => i ≤ l.length) (fun _ r => r = ((low (worstN l g l.length) 720720).1, (low (worstN l g l.length) 720720).2, true)) ?_ 0 (Nat.zero_le _)
  · have e : low (worstN l g 0) 720720 = (0, 1) := by simp [low, worstN]
    rw [e] at key
    exact key
  · intro i hi ih
    have hw := worstN_le hv hl g hg i hi
    simp only [spec_GridError.l0, wrap64_id (x := (i : Int) + 1) (by omega) (by omega), Int.toNat_natCast]
    refine tite (fun c => ?_) (fun c => tsome (by rw [show l.length = i by omega]))
    refine tpos (by omega) (tpos (by omega) ?_)
    refine tbind (noSumTake_tot l hv hl i hi) (fun _ e => ?_); subst e
    refine tbind (noStep_tot l hv hl i g hi hg) (fun _ e => ?_); subst e
    obtain ⟨a, b, gg, h⟩ := lowN (voT l i) 720720 (by omega)
    have hb := h.b_pos (by omega)
    have hle := h.le
    have ht := voT_le hv i hi
    have hE := errN_le (voT l i) g (by omega) hg
    have hs := stepN_le (voT l i) g (by omega) hg
    rw [h.e]
    dsimp only
    have b1 : a * g ≤ voT l i * g := Nat.mul_le_mul_right _ hle.1
    have b2 : b * stepN (voT l i) g ≤ 720720 * stepN (voT l i) g := Nat.mul_le_mul_right _ hle.2
    have e1 : (a : Int) * (g : Int) = ((a * g : Nat) : Int) := by simp
    have e2 : (b : Int) * ((stepN (voT l i) g : Nat) : Int) = ((b * stepN (voT l i) g : Nat) : Int) := by simp
    have b3 : 720720 * stepN (voT l i) g = stepN (voT l i) g * 720720 := Nat.mul_comm _ _
    rw [e1, e2, wrap64_id (x := ((a * g : Nat) : Int)) (by omega) (by omega), wrap64_id (x := ((b * stepN (voT l i) g : Nat) : Int)) (by omega) (by omega), wrap64_id (x := ((a * g : Nat) : Int) - ((b * stepN (voT l i) g : Nat) : Int)) (by omega) (by omega)]
    obtain ⟨dd, hdd⟩ : ∃ dd : Nat, dd = (((a * g : Nat) : Int) - ((b * stepN (voT l i) g : Nat) : Int)).natAbs := ⟨_, rfl⟩
    have habs := l1Abs_nat (((a * g : Nat) : Int) - ((b * stepN (voT l i) g : Nat) : Int)) (by omega) (by omega)
    rw [← hdd] at habs
    have hdd2 : dd ≤ 1000000000000 := by rw [hdd]; exact natAbs_le _ (by omega) (by omega)
    have hscale : dd * gg = errN (voT l i) g := by
      rw [hdd, scale_abs]
      unfold errN
      exact err_scale (voT l i) g (stepN (voT l i) g) 720720 a b gg h.p h.q
    clear hdd b1 b2 b3 e1 e2
    rw [habs]
    simp only [Option.bind_some]
    refine tbind (noPartN_tot dd b (Nat.le_trans hdd2 (by decide)) hb (Nat.le_trans hle.2 (by decide)) _ _ rfl rfl) (fun _ e => ?_); subst e
    have hlow : low dd b = low (errN (voT l i) g) 720720 := by
      rw [← low_scale dd b gg h.g, hscale, ← h.q]
    rw [hlow]
    obtain ⟨p1, q1, g1, r1⟩ := lowN (errN (voT l i) g) 720720 (by omega)
    obtain ⟨p2, q2, g2, r2⟩ := lowN (worstN l g i) 720720 (by omega)
    have l1 := r1.le
    have l2 := r2.le
    have step : ∀ x : Int × Int, x = low (worstN l g (i + 1)) 720720 → Tot (fun k => spec_GridError.l0 k l (g : Int) x.1 x.2 (l.length : Int) ((i : Int) + 1)) (fun r => r = ((low (worstN l g l.length) 720720).1, (low (worstN l g l.length) 720720).2, true)) := fun x e => by
      rw [e]
      have := ih (i + 1) (by omega) (by omega)
      simpa using this
    rw [r1.e, r2.e]
    dsimp only
    have m1 : p1 * q2 ≤ 200000000000 * 720720 := Nat.mul_le_mul (by omega) l2.2
    have m2 : p2 * q1 ≤ 200000000000 * 720720 := Nat.mul_le_mul (by omega) l1.2
    have f1 : (p1 : Int) * (q2 : Int) = ((p1 * q2 : Nat) : Int) := by simp
    have f2 : (p2 : Int) * (q1 : Int) = ((p2 * q1 : Nat) : Int) := by simp
    rw [f1, f2, wrap64_id (x := ((p1 * q2 : Nat) : Int)) (by omega) (by omega), wrap64_id (x := ((p2 * q1 : Nat) : Int)) (by omega) (by omega)]
    have hlt := low_lt (by omega) r1 r2
    refine tite (fun c2 => step ((p1 : Int), (q1 : Int)) ?_) (fun c2 => step ((p2 : Int), (q2 : Int)) ?_)
    · have : worstN l g i < errN (voT l i) g := hlt.1 (by omega)
      conv => rhs; unfold worstN
      rw [Nat.max_eq_right (by omega), r1.e]
    · have : ¬ worstN l g i < errN (voT l i) g := fun hh => c2 (by have := hlt.2 hh; omega)
      conv => rhs; unfold worstN
      rw [Nat.max_eq_left (by omega), r2.e]
theorem gridError_agree (l : List S102) (g : Int) (hl : l.length ≤ 1048576) : ∃ r, Tot (fun k => spec_GridError.f k l g) (fun y => y = r) ∧ Tot (fun k => impl_GridError.f k l g) (fun y => y = r) := by
  have sF : Tot (fun k => spec_GridError.j0 k l g true) (fun y => y = (0, 0, false)) := by
    refine tstep ?_
    simp only [spec_GridError.j0, if_true]
    exact tsome rfl
  have iF : Tot (fun k => impl_GridError.j0 k l g true) (fun y => y = (0, 0, false)) := by
    refine tstep ?_
    simp only [impl_GridError.j0, if_true]
    exact tsome rfl
  by_cases hg : VoGood l ∧ 1 ≤ g ∧ g ≤ 48
  · obtain ⟨hg, hgr⟩ := hg
    have hn : l.length ≤ 20 := by have := hg.2; omega
    obtain ⟨m, rfl⟩ := Int.eq_ofNat_of_zero_le (show 0 ≤ g by omega)
    refine ⟨((low (worstN l m l.length) 720720).1, (low (worstN l m l.length) 720720).2, true), ?_, ?_⟩
    · unfold spec_GridError.f
      refine tbind (spec_noGood_tot l hl) (fun b hb => tpos (hb.2 hg) ?_)
      simp only [noGrid_eq, Option.bind_some]
      rw [decide_eq_true hgr, Bool.not_true]
      refine tstep ?_
      simp only [spec_GridError.j0]
      exact tneg (by simp) (specErr_tot l hg.1 hn m (by omega))
    · unfold impl_GridError.f
      refine tbind (impl_IsVoice_tot l hl) (fun b hb => tpos (hb.2 hg) ?_)
      simp only [isGrid_eq, Option.bind_some]
      rw [decide_eq_true hgr, Bool.not_true]
      refine tstep ?_
      simp only [impl_GridError.j0]
      refine tneg (by simp) ?_
      refine tbind (voiceTimes_tot l hg.1 hn) (fun _ e => ?_); subst e
      refine tpos (by omega) (tpos (by rw [times_len]; omega) ?_)
      simp only [Option.bind_some, Int.toNat_natCast]
      refine implErr_tot l hg.1 hn m (by omega) _ (by simp [times_len]) (fun i hi => ?_)
      have e : rd ((times l l.length).take l.length) (i : Int) = rd (times l l.length) (i : Int) := by
        unfold rd
        exact ld_take _ _ (by omega) (by omega)
      rw [e, times_at l _ _ (by omega)]
  · refine ⟨(0, 0, false), ?_, ?_⟩
    · unfold spec_GridError.f
      refine tbind (spec_noGood_tot l hl) (fun b hb => tite (fun c => ?_) (fun c => sF))
      simp only [noGrid_eq, Option.bind_some]
      rw [decide_eq_false (fun h => hg ⟨hb.1 c, h⟩), Bool.not_false]
      exact sF
    · unfold impl_GridError.f
      refine tbind (impl_IsVoice_tot l hl) (fun b hb => tite (fun c => ?_) (fun c => iF))
      simp only [isGrid_eq, Option.bind_some]
      rw [decide_eq_false (fun h => hg ⟨hb.1 c, h⟩), Bool.not_false]
      exact iF

theorem take_succ_map {α β : Type} (z : α) (f : α → β) (l : List α) (i : Nat) (h : i < l.length) : (l.take (i + 1)).map f = (l.take i).map f ++ [f (l.getD i z)] := by
  rw [List.take_succ_eq_append_getElem h, List.map_append]
  simp [List.getD, h]

def inpl {α : Type} (f : α → α) (l : List α) (i : Nat) : List α := (l.take i).map f ++ l.drop i
theorem inpl_len {α : Type} (f : α → α) (l : List α) (i : Nat) (h : i ≤ l.length) : (inpl f l i).length = l.length := by
  unfold inpl; simp; omega
theorem inpl_zero {α : Type} (f : α → α) (l : List α) : inpl f l 0 = l := by simp [inpl]
theorem inpl_end {α : Type} (f : α → α) (l : List α) : inpl f l l.length = l.map f := by simp [inpl]
theorem inpl_at {α : Type} (z : α) (f : α → α) (l : List α) (i : Nat) (h : i < l.length) : (inpl f l i).getD i z = l.getD i z := by
  unfold inpl
  have h1 : ((l.take i).map f).length = i := by simp; omega
  rw [List.getD, List.getElem?_append_right (by omega), h1, Nat.sub_self]
  simp [List.getD, h]
theorem inpl_set {α : Type} (z : α) (f : α → α) (l : List α) (i : Nat) (h : i < l.length) : (inpl f l i).set i (f (l.getD i z)) = inpl f l (i + 1) := by
  unfold inpl
  have h1 : ((l.take i).map f).length = i := by simp; omega
  rw [List.set_append_right _ _ (by omega), h1, Nat.sub_self, List.drop_eq_getElem_cons h, List.set_cons_zero, List.take_succ_eq_append_getElem h, List.map_append, List.append_assoc]
  simp [List.getD, h]
theorem take_up {α β : Type} (z : α) (f : α → β) (l : List α) (i : Nat) (h : i < l.length) : (l.take (i + 1)).map f = (l.take i).map f ++ [f (l.getD i z)] := by
  rw [List.take_succ_eq_append_getElem h, List.map_append]
  simp [List.getD, h]


theorem FnExactGridError (l0 : List (S104)) (a1 : Int) (hm0 : l0.length ≤ 9223372036854775807) (hw0 : ∀ y ∈ l0, Glue.wf64 y.f0 ∧ Glue.wf64 y.f1 ∧ Glue.wf64 y.f2) (w1 : Glue.wf64 a1) : ∃ k, laws_FnExactGridError.f k l0 a1 = some true := by
  refine rounds ?_
  unfold laws_FnExactGridError.f
  rw [szEventS l0 (1048576 : Int) (by omega) (by omega) hm0]
  simp only [Option.bind_some]
  by_cases hl0 : (1048576 : Int) < (l0.length : Int)
  · simp only [if_pos hl0]; exact tpos (by omega) (tsome rfl)
  simp only [if_neg hl0]
  refine tneg (by omega) ?_
  obtain ⟨r, hS, hI⟩ := gridError_agree (l0.map cvEvent) a1 (by simp; omega)
  repeat first
    | exact tsome rfl
    | (refine tbind hS (fun _ e => ?_); subst e)
    | (refine tbind hI (fun _ e => ?_); subst e)
    | (refine tbind (toEventS l0 (by omega)) (fun _ e => ?_); subst e)
    | (refine tbind (eqEventS _ (by first | omega | (dsimp only; omega) | (simp; omega) | assumption)) (fun _ e => ?_); subst e)
    | refine tpos rfl ?_
    | refine tneg (by dsimp only; omega) ?_
    | refine tneg (by omega) ?_
    | refine tneg (by simp; done) ?_
    | refine tpos (by dsimp only) ?_
    | (refine tstep ?_; simp only [laws_FnExactGridError.j0])
end Go.Proofs.Ytioagkpinneheaa.Pure
