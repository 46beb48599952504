/- The plain side of the law FnExactExactGrid: lists and numbers alone. -/
import Derived.Test.YtioagkpinneheaaPFnExactExactGridx3
import Derived.Test.YtioagkpinneheaaGlue
import Derived.Test.YtioagkpinneheaaTot
set_option linter.unusedVariables false
set_option linter.unusedSimpArgs false
namespace Go.Proofs.Ytioagkpinneheaa.Pure
open Go.RowKit Go.Proofs.Ytioagkpinneheaa.PFnExactExactGrid Go.Proofs.YtioagkpinneheaaW.PrintWords Go.Proofs.YtioagkpinneheaaW.PrintMore Go.Proofs.Ytioagkpinneheaa.Tot

theorem l1In_eq (a b c : Int) : spec_l1In.f a b c = some (decide (b ≤ a ∧ a ≤ c)) := by
  unfold spec_l1In.f
  by_cases h : b ≤ a <;> simp [h]

def cvEvent (x : S104) : S102 := ⟨x.f0, x.f1, x.f2⟩
theorem toEventS (l : List S104) (hl : l.length ≤ 1048576) : Tot (fun k => laws_toEventS.f k l) (fun r => r = l.map cvEvent) := by
  unfold laws_toEventS.f
  refine tpos (by omega) (tpos (by omega) ?_)
  have key := trec (σ := List S102 × Int) (fun s k => laws_toEventS.l0 k l s.1 s.2) (fun s => ((l.length : Int) - s.2).toNat)
    (fun s => 0 ≤ s.2 ∧ s.2 ≤ (l.length : Int) ∧ s.1.length = l.length ∧ ∀ j : Int, 0 ≤ j → j < s.2 → s.1.getD j.toNat z102 = cvEvent (l.getD j.toNat z104)) (fun _ r => r = l.map cvEvent) ?_
  · exact key (List.replicate (l.length : Int).toNat z102, 0) ⟨Int.le_refl _, by dsimp only; omega, by simp, fun j h0 h1 => by dsimp only at h1; omega⟩
  · rintro ⟨ys, i⟩ ⟨h0, h1, h2, h3⟩ ih
    dsimp only at h0 h1 h2 h3
    simp only [laws_toEventS.l0, laws_toEvent.f, Option.bind_some]
    refine tite (fun c => ?_) (fun c => ?_)
    · refine tpos h0 (tpos (by omega) ?_)
      rw [wrap64_id (by omega) (by omega)]
      refine ih (_, i + 1) ⟨by dsimp only; omega, by dsimp only; omega, by simp [h2], ?_⟩ (by dsimp only; omega)
      intro j hj0 hj1
      dsimp only at hj1 ⊢
      by_cases e : j = i
      · subst e; rw [ld_set_self _ _ (by omega) hj0]; rfl
      · rw [ld_set_ne _ _ _ h0 hj0 (by omega)]; exact h3 j hj0 (by omega)
    · exact tsome (write_end h2 (fun j a b => h3 j a (by omega)))

theorem eqEventS (l : List S102) (hl : l.length ≤ 1048576) : Tot (fun k => laws_eqEventS.f k l l) (fun r => r = true) := by
  unfold laws_eqEventS.f
  refine tpos rfl ?_
  refine trec (σ := Int) (fun i k => laws_eqEventS.l0 k l l i) (fun i => ((l.length : Int) - i).toNat) (fun i => 0 ≤ i ∧ i ≤ (l.length : Int)) (fun _ r => r = true) ?_ 0 ⟨Int.le_refl _, by omega⟩
  rintro i ⟨h0, h1⟩ ih
  simp only [laws_eqEventS.l0, laws_eqEvent.f, if_true, Option.bind_some]
  refine tite (fun c => ?_) (fun c => tsome rfl)
  refine tpos h0 (tpos (by omega) ?_)
  rw [wrap64_id (by omega) (by omega)]
  exact ih (i + 1) ⟨by omega, by omega⟩ (by (try dsimp only); omega)

theorem szEventS (l : List S104) (n : Int) (hn : 0 ≤ n) (hn2 : n ≤ 1048576) (hl : l.length ≤ 9223372036854775807) : laws_szEventS.f l n = some (if n < l.length then -1 else n - l.length) := by
  unfold laws_szEventS.f
  simp (disch := omega) only [wrap64_id]
  by_cases h : n < l.length
  · rw [if_pos (by omega), if_pos h]
  · rw [if_neg (by omega), if_neg h]

theorem ntPitch_eq (a : Int) : spec_ntPitch.f a = some (decide (24 ≤ a ∧ a ≤ 96)) := by
  unfold spec_ntPitch.f
  simp only [l1In_eq, Option.bind_some]

theorem gcd_step (a b : Int) (ha : 0 ≤ a) (hb : 0 < b) : 0 ≤ Int.tmod a b ∧ Int.tmod a b < b ∧ Nat.gcd b.toNat (Int.tmod a b).toNat = Nat.gcd a.toNat b.toNat := by
  obtain ⟨m, rfl⟩ := Int.eq_ofNat_of_zero_le ha
  obtain ⟨n, rfl⟩ := Int.eq_ofNat_of_zero_le (Int.le_of_lt hb)
  have e : Int.tmod (m : Int) (n : Int) = ((m % n : Nat) : Int) := rfl
  rw [e]
  have h1 : m % n < n := Nat.mod_lt _ (by omega)
  refine ⟨by omega, by omega, ?_⟩
  simp only [Int.toNat_natCast]
  rw [Nat.gcd_comm m n, Nat.gcd_rec n m, Nat.gcd_comm]
theorem gcd_tot (a b : Int) (ha : 0 ≤ a) (hb : 0 ≤ b) : Tot (fun k => impl_gcd.f k a b) (fun r => r = (Nat.gcd a.toNat b.toNat : Int)) := by
  unfold impl_gcd.f
  refine trec (σ := Int × Int) (fun s k => impl_gcd.l0 k s.1 s.2) (fun s => s.2.toNat) (fun s => 0 ≤ s.1 ∧ 0 ≤ s.2 ∧ Nat.gcd s.1.toNat s.2.toNat = Nat.gcd a.toNat b.toNat) (fun _ r => r = (Nat.gcd a.toNat b.toNat : Int)) ?_ (a, b) ⟨ha, hb, rfl⟩
  rintro ⟨x, y⟩ ⟨hx, hy, hg⟩ ih
  dsimp only at hx hy hg
  simp only [impl_gcd.l0]
  refine tite (fun c => tsome ?_) (fun c => ?_)
  · subst c
    rw [← hg]
    simp
    omega
  · obtain ⟨h1, h2, h3⟩ := gcd_step x y hx (by omega)
    exact ih (y, Int.tmod x y) ⟨hy, h1, by dsimp only; rw [h3, hg]⟩ (by dsimp only; omega)
theorem gcd_pos (a b : Int) (hb : 0 < b) : 0 < (Nat.gcd a.toNat b.toNat : Int) := by
  have : 0 < Nat.gcd a.toNat b.toNat := Nat.gcd_pos_of_pos_right _ (by omega)
  omega
theorem tdiv_eq (a g : Int) (ha : 0 ≤ a) (ha2 : a ≤ 4611686018427387904) (hg : 0 < g) : wrap64 (Int.tdiv a g) = a / g := by
  rw [Int.tdiv_eq_ediv_of_nonneg ha]
  have h1 : 0 ≤ a / g := Int.ediv_nonneg ha (by omega)
  have h2 : a / g ≤ a := Int.ediv_le_self _ ha
  exact wrap64_id (by omega) (by omega)

theorem noPart_tot (a b : Int) (ha : 0 ≤ a) (ha2 : a ≤ 4611686018427387904) (hb : 0 < b) (hb2 : b ≤ 4611686018427387904) : Tot (fun k => spec_noPart.f k a b) (fun r => r = (a / (Nat.gcd a.toNat b.toNat : Int), b / (Nat.gcd a.toNat b.toNat : Int))) := by
  unfold spec_noPart.f
  have habs : spec_l1Abs.f a = some a := by
    unfold spec_l1Abs.f spec_l1Most.f
    rw [wrap64_id (by omega) (by omega)]
    by_cases h : a > -a
    · rw [if_pos h]; rfl
    · rw [if_neg h]
      have : -a = a := by omega
      rw [this]; rfl
  rw [habs]
  simp only [Option.bind_some]
  have hg := gcd_pos a b hb
  refine trec (σ := Int × Int) (fun s k => spec_noPart.l0 k a b s.1 s.2) (fun s => s.2.toNat) (fun s => 0 ≤ s.1 ∧ 0 ≤ s.2 ∧ Nat.gcd s.1.toNat s.2.toNat = Nat.gcd a.toNat b.toNat) (fun _ r => r = (a / (Nat.gcd a.toNat b.toNat : Int), b / (Nat.gcd a.toNat b.toNat : Int))) ?_ (a, b) ⟨ha, by dsimp only; omega, rfl⟩
  rintro ⟨x, y⟩ ⟨hx, hy, hgx⟩ ih
  dsimp only at hx hy hgx
  simp only [spec_noPart.l0]
  refine tite (fun c => ?_) (fun c => ?_)
  · refine tneg (by omega) ?_
    obtain ⟨h1, h2, h3⟩ := gcd_step x y hx c
    exact ih (y, Int.tmod x y) ⟨hy, h1, by dsimp only; rw [h3, hgx]⟩ (by dsimp only; omega)
  · obtain rfl : y = 0 := by omega
    have e : x = (Nat.gcd a.toNat b.toNat : Int) := by
      rw [← hgx]; simp; omega
    refine tneg (by omega) ?_
    exact tsome (by rw [e, tdiv_eq a _ ha ha2 hg, tdiv_eq b _ (by omega) hb2 hg])

def OkEvent (a b c : Int) : Prop := (a = 0 ∨ (24 ≤ a ∧ a ≤ 96)) ∧ (1 ≤ b ∧ b ≤ 99) ∧ (1 ≤ c ∧ c ≤ 16) ∧ Nat.gcd b.toNat c.toNat = 1
theorem div_one {b g : Int} (hb : 0 < b) (hg : 0 < g) : b / g = b ↔ g = 1 := by
  constructor
  · intro h
    by_cases h1 : 1 < g
    · have h2 : b / g < b := by
        apply Int.ediv_lt_of_lt_mul hg
        have : b * 2 ≤ b * g := Int.mul_le_mul_of_nonneg_left (by omega) (by omega)
        omega
      omega
    · omega
  · intro h; subst h; simp
theorem noEvent_tot (a b c : Int) : Tot (fun k => spec_noEvent.f k a b c) (fun r => (r = true) ↔ OkEvent a b c) := by
  have hF : ¬ OkEvent a b c → Tot (fun _ => some false) (fun r => (r = true) ↔ OkEvent a b c) := fun h => tsome ⟨(fun g => by simp at g), (fun g => absurd g h)⟩
  have hT : (a = 0 ∨ (24 ≤ a ∧ a ≤ 96)) → (1 ≤ b ∧ b ≤ 99) → (1 ≤ c ∧ c ≤ 16) → Tot (fun k => (spec_noPart.f k b c).bind fun r => some (r.2 == c)) (fun r => (r = true) ↔ OkEvent a b c) := by
    intro h1 h2 h3
    refine tbind (noPart_tot b c (by omega) (by omega) (by omega) (by omega)) (fun _ e => ?_); subst e
    refine tsome ?_
    dsimp only
    rw [beq_iff_eq, div_one (by omega) (gcd_pos b c (by omega))]
    exact ⟨fun h => ⟨h1, h2, h3, by omega⟩, fun h => by have := h.2.2.2; omega⟩
  unfold spec_noEvent.f
  simp only [ntPitch_eq, l1In_eq, Option.bind_some, decide_eq_true_eq]
  refine tite (fun c0 => ?_) (fun c0 => tite (fun c1 => ?_) (fun c1 => hF (fun h => by have := h.1; omega)))
  all_goals
    refine tite (fun c2 => ?_) (fun c2 => hF (fun h => c2 h.2.1))
    refine tite (fun c3 => ?_) (fun c3 => hF (fun h => c3 h.2.2.1))
  · exact hT (.inl c0) c2 c3
  · exact hT (.inr c1) c2 c3
theorem implIsPitch_eq (a : Int) : impl_isPitch.f a = some (decide (24 ≤ a ∧ a ≤ 96)) := by
  unfold impl_isPitch.f
  by_cases h : 24 ≤ a <;> simp [h]
theorem isEvent_tot (a b c : Int) : Tot (fun k => impl_isEvent.f k a b c) (fun r => (r = true) ↔ OkEvent a b c) := by
  have hF : ¬ OkEvent a b c → Tot (fun _ => some false) (fun r => (r = true) ↔ OkEvent a b c) := fun h => tsome ⟨(fun g => by simp at g), (fun g => absurd g h)⟩
  have hT : (a = 0 ∨ (24 ≤ a ∧ a ≤ 96)) → 1 ≤ b → b ≤ 99 → 1 ≤ c → c ≤ 16 → Tot (fun k => (impl_gcd.f k b c).bind fun r => some (r == 1)) (fun r => (r = true) ↔ OkEvent a b c) := by
    intro h1 h2 h3 h4 h5
    refine tbind (gcd_tot b c (by omega) (by omega)) (fun _ e => ?_); subst e
    refine tsome ?_
    rw [beq_iff_eq]
    exact ⟨fun h => ⟨h1, ⟨h2, h3⟩, ⟨h4, h5⟩, by omega⟩, fun h => by have := h.2.2.2; omega⟩
  unfold impl_isEvent.f
  simp only [implIsPitch_eq, Option.bind_some, decide_eq_true_eq]
  refine tite (fun c0 => ?_) (fun c0 => tite (fun c1 => ?_) (fun c1 => hF (fun h => by have := h.1; omega)))
  all_goals
    refine tite (fun c2 => ?_) (fun c2 => hF (fun h => by have := h.2.1; omega))
    refine tite (fun c3 => ?_) (fun c3 => hF (fun h => by have := h.2.1; omega))
    refine tite (fun c4 => ?_) (fun c4 => hF (fun h => by have := h.2.2.1; omega))
    refine tite (fun c5 => ?_) (fun c5 => hF (fun h => by have := h.2.2.1; omega))
  · exact hT (.inl c0) c2 c3 c4 c5
  · exact hT (.inr c1) c2 c3 c4 c5
def VoC (l : List S102) (j : Int) : Prop := OkEvent (rd_T102 l j).f0 (rd_T102 l j).f1 (rd_T102 l j).f2
def VoGood (l : List S102) : Prop := (∀ j : Int, 0 ≤ j → j < (l.length : Int) → VoC l j) ∧ (l.length : Int) ≤ 20

theorem spec_noGood_tot (l : List S102) (hl : l.length ≤ 1048576) : Tot (fun k => spec_noGood.f k l) (fun b => (b = true) ↔ VoGood l) := by
  unfold spec_noGood.f
  refine trec (σ := Int) (fun i k => spec_noGood.l0 k l l (l.length : Int) i) (fun i => ((l.length : Int) - i).toNat) (fun i => 0 ≤ i ∧ i ≤ (l.length : Int))
    (fun i b => (b = true) ↔ ((∀ j : Int, i ≤ j → j < (l.length : Int) → VoC l j) ∧ (l.length : Int) ≤ 20)) ?_ 0 ⟨Int.le_refl _, by omega⟩
  rintro i ⟨h0, h1⟩ ih
  simp only [spec_noGood.l0]
  refine tite (fun c => ?_) (fun c => tsome (all_end c (by simp only [decide_eq_true_eq])))
  refine tpos h0 (tpos c ?_)
  refine tbind (noEvent_tot _ _ _) (fun b hb => ?_)
  refine tite (fun c2 => ?_) (fun c2 => tsome (all_no c (fun h => c2 (hb.2 h))))
  rw [wrap64_id (by omega) (by omega)]
  exact tmono (ih (i + 1) ⟨by omega, by omega⟩ (by (try dsimp only); omega)) (fun b2 hb2 => all_go c (hb.1 c2) hb2)

theorem impl_IsVoice_tot (l : List S102) (hl : l.length ≤ 1048576) : Tot (fun k => impl_IsVoice.f k l) (fun b => (b = true) ↔ VoGood l) := by
  unfold impl_IsVoice.f
  refine trec (σ := Int) (fun i k => impl_IsVoice.l0 k l l (l.length : Int) i) (fun i => ((l.length : Int) - i).toNat) (fun i => 0 ≤ i ∧ i ≤ (l.length : Int))
    (fun i b => (b = true) ↔ ((∀ j : Int, i ≤ j → j < (l.length : Int) → VoC l j) ∧ (l.length : Int) ≤ 20)) ?_ 0 ⟨Int.le_refl _, by omega⟩
  rintro i ⟨h0, h1⟩ ih
  simp only [impl_IsVoice.l0]
  refine tite (fun c => ?_) (fun c => tsome (all_end c (by simp only [decide_eq_true_eq])))
  refine tpos h0 (tpos c ?_)
  refine tbind (isEvent_tot _ _ _) (fun b hb => ?_)
  refine tite (fun c2 => ?_) (fun c2 => tsome (all_no c (fun h => c2 (hb.2 h))))
  rw [wrap64_id (by omega) (by omega)]
  exact tmono (ih (i + 1) ⟨by omega, by omega⟩ (by (try dsimp only); omega)) (fun b2 hb2 => all_go c (hb.1 c2) hb2)

theorem l1Most_eq (a b : Int) : spec_l1Most.f a b = some (mx a b) := by
  unfold spec_l1Most.f mx
  by_cases h : a > b
  · rw [if_pos h, if_neg (by omega)]
  · rw [if_neg h]
    by_cases h2 : a < b
    · rw [if_pos h2]
    · rw [if_neg h2]
      congr 1; omega

def voT (l : List S102) : Nat → Nat
  | 0 => 0
  | i + 1 => voT l i + (rd_T102 l i).f1.toNat * (720720 / (rd_T102 l i).f2.toNat)
theorem den_div (d : Nat) (h0 : 1 ≤ d) (h : d ≤ 16) : 720720 / d * d = 720720 := by
  have key : ∀ d : Nat, d < 17 → 0 < d → 720720 / d * d = 720720 := by decide
  exact key d (by omega) (by omega)
theorem den_le (d : Nat) : 720720 / d ≤ 720720 := Nat.div_le_self _ _
structure EvN (l : List S102) (i n d : Nat) : Prop where
  num : (rd_T102 l i).f1 = (n : Int)
  den : (rd_T102 l i).f2 = (d : Int)
  n1 : 1 ≤ n
  n2 : n ≤ 99
  d1 : 1 ≤ d
  d2 : d ≤ 16
theorem evN {l : List S102} {i : Nat} (h : VoC l i) : ∃ n d, EvN l i n d := by
  unfold VoC OkEvent at h
  exact ⟨(rd_T102 l i).f1.toNat, (rd_T102 l i).f2.toNat, ⟨by omega, by omega, by omega, by omega, by omega, by omega⟩⟩
theorem voT_succ {l : List S102} {i n d : Nat} (h : EvN l i n d) : voT l (i + 1) = voT l i + n * (720720 / d) := by
  conv => lhs; unfold voT
  rw [h.num, h.den, Int.toNat_natCast, Int.toNat_natCast]
def VoAll (l : List S102) : Prop := ∀ j : Int, 0 ≤ j → j < (l.length : Int) → VoC l j
theorem mul99 {n x : Nat} (hn : n ≤ 99) (hx : x ≤ 720720) : n * x ≤ 71351280 := by
  have h1 : n * x ≤ 99 * x := Nat.mul_le_mul_right _ hn
  omega
theorem voT_le {l : List S102} (hv : VoAll l) (i : Nat) (hi : i ≤ l.length) : voT l i ≤ i * 71351280 := by
  induction i with
  | zero => simp [voT]
  | succ i ih =>
    obtain ⟨n, d, h⟩ := evN (hv i (by omega) (by omega))
    rw [voT_succ h]
    have := ih (by omega)
    have := mul99 h.n2 (den_le d)
    omega
theorem rd_take {l : List S102} (i j : Nat) (h : j < i) : rd_T102 (l.take i) (j : Int) = rd_T102 l (j : Int) := by
  unfold rd_T102
  exact ld_take i (j : Int) (by omega) (by omega)
theorem voT_take {l : List S102} (i j : Nat) (h : j ≤ i) : voT (l.take i) j = voT l j := by
  induction j with
  | zero => rfl
  | succ j ih =>
    unfold voT
    rw [ih (by omega), rd_take i j (by omega)]
theorem VoAll.take {l : List S102} (hv : VoAll l) (i : Nat) : VoAll (l.take i) := by
  intro j h0 h1
  obtain ⟨m, rfl⟩ := Int.eq_ofNat_of_zero_le h0
  simp at h1
  have := hv m h0 (by omega)
  unfold VoC at this ⊢
  rw [rd_take i m (by omega)]
  exact this
/-- A fraction in lowest terms. -/
def low (p q : Nat) : Int × Int := (((p / Nat.gcd p q : Nat) : Int), ((q / Nat.gcd p q : Nat) : Int))
theorem low_eq (p q : Nat) : ((p : Int) / (Nat.gcd (p : Int).toNat (q : Int).toNat : Int), (q : Int) / (Nat.gcd (p : Int).toNat (q : Int).toNat : Int)) = low p q := by
  unfold low
  simp only [Int.toNat_natCast, Int.natCast_ediv]
theorem low_scale (p q s : Nat) (hs : 0 < s) : low (p * s) (q * s) = low p q := by
  unfold low
  rw [Nat.gcd_mul_right, Nat.mul_div_mul_right _ _ hs, Nat.mul_div_mul_right _ _ hs]
theorem low_unique {p q r s : Nat} (hq : 0 < q) (hs : 0 < s) (h : p * s = r * q) : low p q = low r s := by
  rw [← low_scale p q s hs, ← low_scale r s q hq, h, Nat.mul_comm q s]
structure LowN (p q a b g : Nat) : Prop where
  e : low p q = ((a : Int), (b : Int))
  p : p = a * g
  q : q = b * g
  g : 0 < g
theorem lowN (p q : Nat) (hq : 0 < q) : ∃ a b g, LowN p q a b g := by
  have hg : 0 < Nat.gcd p q := Nat.gcd_pos_of_pos_right _ hq
  exact ⟨p / Nat.gcd p q, q / Nat.gcd p q, Nat.gcd p q, ⟨rfl, (Nat.div_mul_cancel (Nat.gcd_dvd_left p q)).symm, (Nat.div_mul_cancel (Nat.gcd_dvd_right p q)).symm, hg⟩⟩
theorem LowN.b_pos {p q a b g : Nat} (h : LowN p q a b g) (hq : 0 < q) : 0 < b := by
  rcases Nat.eq_zero_or_pos b with h0 | h0
  · have := h.q
    rw [h0, Nat.zero_mul] at this
    omega
  · exact h0
theorem LowN.le {p q a b g : Nat} (h : LowN p q a b g) : a ≤ p ∧ b ≤ q := by
  have h1 : a * 1 ≤ a * g := Nat.mul_le_mul_left _ h.g
  have h2 : b * 1 ≤ b * g := Nat.mul_le_mul_left _ h.g
  rw [h.p, h.q]
  omega
theorem low_step {t a b g n d : Nat} (h : LowN t 720720 a b g) (hd1 : 1 ≤ d) (hd2 : d ≤ 16) : low (a * d + n * b) (b * d) = low (t + n * (720720 / d)) 720720 := by
  have hb := h.b_pos (by omega)
  refine low_unique (Nat.mul_pos hb (by omega)) (by omega) ?_
  have hw := h.q
  have hdd := den_div d hd1 hd2
  obtain ⟨x, hx⟩ : ∃ x, x = 720720 / d := ⟨_, rfl⟩
  rw [← hx] at hdd ⊢
  rw [h.p]
  calc (a * d + n * b) * 720720 = a * d * 720720 + n * b * 720720 := Nat.add_mul _ _ _
    _ = a * d * (b * g) + n * b * (x * d) := by rw [← hw, hdd]
    _ = a * g * (b * d) + n * x * (b * d) := by
      congr 1
      · ac_rfl
      · ac_rfl
    _ = (a * g + n * x) * (b * d) := (Nat.add_mul _ _ _).symm
theorem noPartN_tot (p q : Nat) (hp : p ≤ 4611686018427387904) (hq : 0 < q) (hq2 : q ≤ 4611686018427387904) (x y : Int) (hx : x = (p : Int)) (hy : y = (q : Int)) : Tot (fun k => spec_noPart.f k x y) (fun r => r = low p q) := by
  subst hx; subst hy
  have := noPart_tot (p : Int) (q : Int) (by omega) (by omega) (by omega) (by omega)
  rw [low_eq] at this
  exact this

theorem noSum_tot (l : List S102) (hv : VoAll l) (hl : l.length ≤ 20) : Tot (fun k => spec_noSum.f k l) (fun r => r = low (voT l l.length) 720720) := by
  unfold spec_noSum.f
  have key := trec (σ := Nat) (fun i k => spec_noSum.l0 k (low (voT l i) 720720).1 (low (voT l i) 720720).2 l (l.length : Int) (i : Int)) (fun i => l.length - i) (fun i => i ≤ l.length) (fun _ r => r = low (voT l l.length) 720720) ?_ 0 (Nat.zero_le _)
  · have e : low (voT l 0) 720720 = (0, 1) := by simp [low, voT]
    rw [e] at key
    exact key
  · intro i hi ih
    obtain ⟨a, b, g, h⟩ := lowN (voT l i) 720720 (by omega)
    have hb := h.b_pos (by omega)
    have hle := h.le
    have ht := voT_le hv i hi
    rw [h.e]
    simp only [spec_noSum.l0, wrap64_id (x := (i : Int) + 1) (by omega) (by omega)]
    refine tite (fun c => ?_) (fun c => tsome (by rw [show l.length = i by omega, h.e]))
    refine tpos (by omega) (tpos c ?_)
    obtain ⟨n, d, hn⟩ := evN (hv i (by omega) c)
    rw [hn.num, hn.den]
    have hd := hn.d2
    have hn2 := hn.n2
    have b1 : a * d ≤ 1427025600 * 16 := Nat.mul_le_mul (by omega) hd
    have b2 : n * b ≤ 99 * 720720 := Nat.mul_le_mul hn2 (by omega)
    have b3 : b * d ≤ 720720 * 16 := Nat.mul_le_mul (by omega) hd
    have e1 : (a : Int) * (d : Int) = ((a * d : Nat) : Int) := by simp
    have e2 : (n : Int) * (b : Int) = ((n * b : Nat) : Int) := by simp
    have e3 : (b : Int) * (d : Int) = ((b * d : Nat) : Int) := by simp
    rw [e1, e2, e3, wrap64_id (x := ((a * d : Nat) : Int)) (by omega) (by omega), wrap64_id (x := ((n * b : Nat) : Int)) (by omega) (by omega), wrap64_id (x := ((b * d : Nat) : Int)) (by omega) (by omega), wrap64_id (x := ((a * d : Nat) : Int) + ((n * b : Nat) : Int)) (by omega) (by omega)]
    refine tbind (noPartN_tot (a * d + n * b) (b * d) (by omega) (Nat.mul_pos hb hn.d1) (by omega) _ _ (by omega) rfl) (fun _ e => ?_); subst e
    rw [low_step h hn.d1 hn.d2, ← voT_succ hn]
    have := ih (i + 1) (by omega) (by omega)
    simpa using this
theorem noSumTake_tot (l : List S102) (hv : VoAll l) (hl : l.length ≤ 20) (i : Nat) (hi : i ≤ l.length) : Tot (fun k => spec_noSum.f k (l.take i)) (fun r => r = low (voT l i) 720720) := by
  have h := noSum_tot (l.take i) (hv.take i) (by simp; omega)
  rw [show (l.take i).length = i by simp; omega, voT_take i i (Nat.le_refl _)] at h
  exact h

def times (l : List S102) (n : Nat) : List Int := (List.range (n + 1)).map fun j => ((voT l j : Nat) : Int)
theorem times_at (l : List S102) (n i : Nat) (h : i ≤ n) : rd (times l n) (i : Int) = (voT l i : Int) := by
  unfold rd times
  have : i < n + 1 := by omega
  simp [List.getD, this]
theorem times_len (l : List S102) (n : Nat) : (times l n).length = n + 1 := by simp [times]
theorem voiceTimes_tot (l : List S102) (hv : VoAll l) (hl : l.length ≤ 20) : Tot (fun k => impl_voiceTimes.f k l) (fun r => r = times l l.length) := by
  unfold impl_voiceTimes.f
  refine trec (σ := Nat) (fun i k => impl_voiceTimes.l0 k (times l i) ((voT l i : Nat) : Int) l (l.length : Int) (i : Int)) (fun i => l.length - i) (fun i => i ≤ l.length) (fun _ r => r = times l l.length) ?_ 0 (Nat.zero_le _)
  intro i hi ih
  have ht := voT_le hv i hi
  simp only [impl_voiceTimes.l0, wrap64_id (x := (i : Int) + 1) (by omega) (by omega)]
  refine tite (fun c => ?_) (fun c => tsome (by rw [show l.length = i by omega]))
  refine tpos (by omega) (tpos c ?_)
  obtain ⟨n, d, hn⟩ := evN (hv i (by omega) c)
  rw [hn.num, hn.den]
  have h1 := hn.d1
  refine tneg (by omega) ?_
  refine tpos (by rw [times_len]; omega) ?_
  have e0 : Int.tdiv 720720 (d : Int) = ((720720 / d : Nat) : Int) := rfl
  have hsucc := voT_succ hn
  have b0 := den_le d
  have b1 := mul99 hn.n2 b0
  obtain ⟨q, hq⟩ : ∃ q, q = 720720 / d := ⟨_, rfl⟩
  rw [← hq] at e0 hsucc b0 b1
  have e2 : (n : Int) * (q : Int) = ((n * q : Nat) : Int) := by simp
  rw [e0, wrap64_id (x := (q : Int)) (by omega) (by omega), e2, wrap64_id (x := ((n * q : Nat) : Int)) (by omega) (by omega), wrap64_id (x := ((voT l i : Nat) : Int) + ((n * q : Nat) : Int)) (by omega) (by omega)]
  have e3 : ((voT l i : Nat) : Int) + ((n * q : Nat) : Int) = ((voT l (i + 1) : Nat) : Int) := by rw [hsucc]; omega
  rw [e3]
  have e4 : times l i ++ [((voT l (i + 1) : Nat) : Int)] = times l (i + 1) := by
    unfold times
    rw [List.range_succ (n := i + 1), List.map_append]
    rfl
  rw [e4]
  have := ih (i + 1) (by omega) (by omega)
  simpa using this

def exactAt (l : List S102) (g i : Nat) : Prop := (voT l i * g) % 720720 = 0
def exactAll (l : List S102) (g : Nat) : Prop := ∀ i : Nat, i ≤ l.length → exactAt l g i
theorem exact_low {l : List S102} {i a b g grid : Nat} (h : LowN (voT l i) 720720 a b g) : (a * grid) % b = 0 ↔ exactAt l grid i := by
  unfold exactAt
  rw [h.p, show a * g * grid = a * grid * g by ac_rfl]
  conv => rhs; rw [h.q, Nat.mul_mod_mul_right]
  constructor
  · intro e; rw [e, Nat.zero_mul]
  · intro e
    rcases Nat.mul_eq_zero.1 e with e | e
    · exact e
    · have := h.g; omega
def GridIs (l : List S102) (r : Int × Bool) : Prop := (∃ g : Nat, 1 ≤ g ∧ g ≤ 48 ∧ exactAll l g ∧ (∀ q : Nat, 1 ≤ q → q < g → ¬ exactAll l q) ∧ r = ((g : Int), true)) ∨ (r = (0, false) ∧ ∀ q : Nat, 1 ≤ q → q ≤ 48 → ¬ exactAll l q)
theorem GridIs.det {l : List S102} {r r' : Int × Bool} (h : GridIs l r) (h' : GridIs l r') : r = r' := by
  rcases h with ⟨g, a, b, c, d, e⟩ | ⟨e, h⟩ <;> rcases h' with ⟨g', a', b', c', d', e'⟩ | ⟨e', h'⟩
  · rcases Nat.lt_trichotomy g g' with x | x | x
    · exact absurd c (d' g a x)
    · rw [e, e', x]
    · exact absurd c' (d g' a' x)
  · exact absurd c (h' g a b)
  · exact absurd c' (h g' a' b')
  · rw [e, e']
theorem tmodN (x y : Nat) : Int.tmod (x : Int) (y : Int) = ((x % y : Nat) : Int) := rfl
theorem specGrid_tot (l : List S102) (hv : VoAll l) (hl : l.length ≤ 20) : Tot (fun k => spec_ExactGrid.l0 k l 1) (fun r => GridIs l r) := by
  refine trec (σ := Nat) (fun g k => spec_ExactGrid.l0 k l (g : Int)) (fun g => 49 - g) (fun g => 1 ≤ g ∧ g ≤ 49 ∧ ∀ q : Nat, 1 ≤ q → q < g → ¬ exactAll l q) (fun _ r => GridIs l r) ?_ 1 ⟨Nat.le_refl _, by omega, fun q a b => by omega⟩
  rintro g ⟨g1, g2, hq⟩ ih
  simp only [spec_ExactGrid.l0]
  refine tite (fun c => ?_) (fun c => tsome (.inr ⟨rfl, fun q a b => hq q a (by omega)⟩))
  refine trec (σ := Bool × Nat) (fun s k => spec_ExactGrid.l1 k l (g : Int) s.1 (s.2 : Int)) (fun s => l.length + 1 - s.2) (fun s => s.2 ≤ l.length + 1 ∧ (s.1 = true ↔ ∀ i : Nat, i < s.2 → exactAt l g i)) (fun _ r => GridIs l r) ?_ (true, 0) ⟨Nat.zero_le _, by simp⟩
  rintro ⟨x, i⟩ ⟨hi, hx⟩ ihi
  dsimp only at hi hx
  simp only [spec_ExactGrid.l1, wrap64_id (x := (i : Int) + 1) (by omega) (by omega), wrap64_id (x := (g : Int) + 1) (by omega) (by omega), Int.toNat_natCast]
  refine tite (fun c2 => ?_) (fun c2 => ?_)
  · refine tpos (by omega) ?_
    refine tbind (noSumTake_tot l hv hl i (by omega)) (fun _ e => ?_); subst e
    obtain ⟨a, b, gg, h⟩ := lowN (voT l i) 720720 (by omega)
    have hb := h.b_pos (by omega)
    have hle := h.le
    have ht := voT_le hv i (by omega)
    rw [h.e]
    dsimp only
    have go : ∀ x' : Bool, (x' = true ↔ ∀ j : Nat, j < i + 1 → exactAt l g j) → Tot (fun k => spec_ExactGrid.l1 k l (g : Int) x' ((i : Int) + 1)) (fun r => GridIs l r) := fun x' hx' => by
      have := ihi (x', i + 1) ⟨by dsimp only; omega, hx'⟩ (by dsimp only; omega)
      simpa using this
    refine tite (fun c3 => ?_) (fun c3 => go false ⟨fun h => by simp at h, fun h => absurd (hx.2 (fun j hj => h j (by omega))) c3⟩)
    refine tneg (by omega) (go _ ?_)
    have b1 : a * g ≤ 1427025600 * 48 := Nat.mul_le_mul (by omega) (by omega)
    have e1 : (a : Int) * (g : Int) = ((a * g : Nat) : Int) := by simp
    rw [e1, wrap64_id (x := ((a * g : Nat) : Int)) (by omega) (by omega), tmodN, beq_iff_eq]
    have hx3 := hx.1 c3
    have hel := exact_low (grid := g) h
    constructor
    · intro e j hj
      by_cases ej : j = i
      · rw [ej]; exact hel.1 (by omega)
      · exact hx3 j (by omega)
    · intro hh
      have := hel.2 (hh i (by omega))
      omega
  · have : i = l.length + 1 := by omega
    refine tite (fun c3 => tsome (.inl ⟨g, g1, by omega, fun j hj => hx.1 c3 j (by omega), hq, rfl⟩)) (fun c3 => ?_)
    have := ih (g + 1) ⟨by omega, by omega, fun q a b => by
      by_cases e : q = g
      · rw [e]; exact fun hh => c3 (hx.2 (fun j hj => hh j (by omega)))
      · exact hq q a (by omega)⟩ (by omega)
    simpa using this
theorem implGrid_tot (l : List S102) (hv : VoAll l) (hl : l.length ≤ 20) : Tot (fun k => impl_ExactGrid.l0 k (times l l.length) 1) (fun r => GridIs l r) := by
  refine trec (σ := Nat) (fun g k => impl_ExactGrid.l0 k (times l l.length) (g : Int)) (fun g => 49 - g) (fun g => 1 ≤ g ∧ g ≤ 49 ∧ ∀ q : Nat, 1 ≤ q → q < g → ¬ exactAll l q) (fun _ r => GridIs l r) ?_ 1 ⟨Nat.le_refl _, by omega, fun q a b => by omega⟩
  rintro g ⟨g1, g2, hq⟩ ih
  have htl : ((times l l.length).length : Int) = (l.length : Int) + 1 := by rw [times_len]; omega
  simp only [impl_ExactGrid.l0, htl]
  refine tite (fun c => ?_) (fun c => tsome (.inr ⟨rfl, fun q a b => hq q a (by omega)⟩))
  refine trec (σ := Bool × Nat) (fun s k => impl_ExactGrid.l1 k (times l l.length) (g : Int) s.1 (times l l.length) ((l.length : Int) + 1) (s.2 : Int)) (fun s => l.length + 1 - s.2) (fun s => s.2 ≤ l.length + 1 ∧ (s.1 = true ↔ ∀ i : Nat, i < s.2 → exactAt l g i)) (fun _ r => GridIs l r) ?_ (true, 0) ⟨Nat.zero_le _, by simp⟩
  rintro ⟨x, i⟩ ⟨hi, hx⟩ ihi
  dsimp only at hi hx
  simp only [impl_ExactGrid.l1, htl, wrap64_id (x := (i : Int) + 1) (by omega) (by omega), wrap64_id (x := (g : Int) + 1) (by omega) (by omega)]
  refine tite (fun c2 => ?_) (fun c2 => ?_)
  · refine tpos (by omega) (tpos c2 ?_)
    have ht := voT_le hv i (by omega)
    have go : ∀ x' : Bool, (x' = true ↔ ∀ j : Nat, j < i + 1 → exactAt l g j) → Tot (fun k => impl_ExactGrid.l1 k (times l l.length) (g : Int) x' (times l l.length) ((l.length : Int) + 1) ((i : Int) + 1)) (fun r => GridIs l r) := fun x' hx' => by
      have := ihi (x', i + 1) ⟨by dsimp only; omega, hx'⟩ (by dsimp only; omega)
      simpa using this
    refine tite (fun c3 => ?_) (fun c3 => go false ⟨fun h => by simp at h, fun h => absurd (hx.2 (fun j hj => h j (by omega))) c3⟩)
    refine go _ ?_
    rw [times_at l l.length i (by omega)]
    have b1 : voT l i * g ≤ 1427025600 * 48 := Nat.mul_le_mul (by omega) (by omega)
    have e1 : (voT l i : Int) * (g : Int) = ((voT l i * g : Nat) : Int) := by simp
    have e2 : (720720 : Int) = ((720720 : Nat) : Int) := rfl
    rw [e1, wrap64_id (x := ((voT l i * g : Nat) : Int)) (by omega) (by omega), e2, tmodN, beq_iff_eq]
    have hx3 := hx.1 c3
    constructor
    · intro e j hj
      by_cases ej : j = i
      · rw [ej]; unfold exactAt; omega
      · exact hx3 j (by omega)
    · intro hh
      have := hh i (by omega)
      unfold exactAt at this
      omega
  · have : i = l.length + 1 := by omega
    refine tite (fun c3 => tsome (.inl ⟨g, g1, by omega, fun j hj => hx.1 c3 j (by omega), hq, rfl⟩)) (fun c3 => ?_)
    have := ih (g + 1) ⟨by omega, by omega, fun q a b => by
      by_cases e : q = g
      · rw [e]; exact fun hh => c3 (hx.2 (fun j hj => hh j (by omega)))
      · exact hq q a (by omega)⟩ (by omega)
    simpa using this
theorem exactGrid_agree (l : List S102) (hl : l.length ≤ 1048576) : ∃ r, Tot (fun k => spec_ExactGrid.f k l) (fun y => y = r) ∧ Tot (fun k => impl_ExactGrid.f k l) (fun y => y = r) := by
  by_cases hg : VoGood l
  · have hn : l.length ≤ 20 := by have := hg.2; omega
    obtain ⟨r, hr, hR⟩ := specGrid_tot l hg.1 hn
    refine ⟨r, ?_, ?_⟩
    · unfold spec_ExactGrid.f
      exact tbind (spec_noGood_tot l hl) (fun b hb => tpos (hb.2 hg) ⟨r, hr, rfl⟩)
    · unfold impl_ExactGrid.f
      refine tbind (impl_IsVoice_tot l hl) (fun b hb => tpos (hb.2 hg) ?_)
      refine tbind (voiceTimes_tot l hg.1 hn) (fun _ e => ?_); subst e
      exact tmono (implGrid_tot l hg.1 hn) (fun y hy => hy.det hR)
  · refine ⟨(0, false), ?_, ?_⟩
    · unfold spec_ExactGrid.f
      exact tbind (spec_noGood_tot l hl) (fun b hb => tneg (fun h => hg (hb.1 h)) (tsome rfl))
    · unfold impl_ExactGrid.f
      exact tbind (impl_IsVoice_tot l hl) (fun b hb => tneg (fun h => hg (hb.1 h)) (tsome rfl))

theorem take_succ_map {α β : Type} (z : α) (f : α → β) (l : List α) (i : Nat) (h : i < l.length) : (l.take (i + 1)).map f = (l.take i).map f ++ [f (l.getD i z)] := by
  rw [List.take_succ_eq_append_getElem h, List.map_append]
  simp [List.getD, h]


theorem FnExactExactGrid (l0 : List (S104)) (hm0 : l0.length ≤ 9223372036854775807) (hw0 : ∀ y ∈ l0, Glue.wf64 y.f0 ∧ Glue.wf64 y.f1 ∧ Glue.wf64 y.f2) : ∃ k, laws_FnExactExactGrid.f k l0 = some true := by
  refine rounds ?_
  unfold laws_FnExactExactGrid.f
  rw [szEventS l0 (1048576 : Int) (by omega) (by omega) hm0]
  simp only [Option.bind_some]
  by_cases hl0 : (1048576 : Int) < (l0.length : Int)
  · simp only [if_pos hl0]; exact tpos (by omega) (tsome rfl)
  simp only [if_neg hl0]
  refine tneg (by omega) ?_
  obtain ⟨r, hS, hI⟩ := exactGrid_agree (l0.map cvEvent) (by simp; omega)
  repeat first
    | exact tsome rfl
    | (refine tbind hS (fun _ e => ?_); subst e)
    | (refine tbind hI (fun _ e => ?_); subst e)
    | (refine tbind (toEventS l0 (by omega)) (fun _ e => ?_); subst e)
    | (refine tbind (eqEventS _ (by first | omega | (dsimp only; omega) | (simp; omega) | assumption)) (fun _ e => ?_); subst e)
    | refine tpos rfl ?_
    | refine tneg (by dsimp only; omega) ?_
    | refine tneg (by omega) ?_
    | refine tneg (by simp; done) ?_
    | refine tpos (by dsimp only) ?_
    | (refine tstep ?_; simp only [laws_FnExactExactGrid.j0])
end Go.Proofs.Ytioagkpinneheaa.Pure
