/- The plain side of the law FnExactVoiceText: lists and numbers alone. -/
import Derived.Test.YtgeipgflhjakjaaDoorPFnExactVoiceTextx5
import Derived.Test.YtgeipgflhjakjaaDoorGlue
import Derived.Test.YtgeipgflhjakjaaDoorTot
set_option linter.unusedVariables false
set_option linter.unusedSimpArgs false
namespace Go.Proofs.YtgeipgflhjakjaaDoor.Pure
open Go.RowKit Go.Proofs.YtgeipgflhjakjaaDoor.PFnExactVoiceText Go.Proofs.YtgeipgflhjakjaaDoorW.PrintWords Go.Proofs.YtgeipgflhjakjaaDoorW.PrintMore Go.Proofs.YtgeipgflhjakjaaDoor.Tot

theorem l1In_eq (a b c : Int) : spec_l1In.f a b c = some (decide (b ≤ a ∧ a ≤ c)) := by
  unfold spec_l1In.f
  by_cases h : b ≤ a <;> simp [h]

def cvEvent (x : S74) : S72 := ⟨x.f0, x.f1, x.f2⟩
theorem toEventS (l : List S74) (hl : l.length ≤ 1048576) : Tot (fun k => laws_toEventS.f k l) (fun r => r = l.map cvEvent) := by
  unfold laws_toEventS.f
  refine tpos (by omega) (tpos (by omega) ?_)
  have key := trec (σ := List S72 × Int) (fun s k => laws_toEventS.l0 k l s.1 s.2) (fun s => ((l.length : Int) - s.2).toNat)
    (fun s => 0 ≤ s.2 ∧ s.2 ≤ (l.length : Int) ∧ s.1.length = l.length ∧ ∀ j : Int, 0 ≤ j → j < s.2 → s.1.getD j.toNat z72 = cvEvent (l.getD j.toNat z74)) (fun _ r => r = l.map cvEvent) ?_
  · exact key (List.replicate (l.length : Int).toNat z72, 0) ⟨Int.le_refl _, by dsimp only; omega, by simp, fun j h0 h1 => by dsimp only at h1; omega⟩
  · rintro ⟨ys, i⟩ ⟨h0, h1, h2, h3⟩ ih
    dsimp only at h0 h1 h2 h3
    simp only [laws_toEventS.l0, laws_toEvent.f, Option.bind_some]
    refine tite (fun c => ?_) (fun c => ?_)
    · refine tpos h0 (tpos (by omega) ?_)
      rw [wrap64_id (by omega) (by omega)]
      refine ih (_, i + 1) ⟨by dsimp only; omega, by dsimp only; omega, by simp [h2], ?_⟩ (by dsimp only; omega)
      intro j hj0 hj1
      dsimp only at hj1 ⊢
      by_cases e : j = i
      · subst e; rw [ld_set_self _ _ (by omega) hj0]; rfl
      · rw [ld_set_ne _ _ _ h0 hj0 (by omega)]; exact h3 j hj0 (by omega)
    · exact tsome (write_end h2 (fun j a b => h3 j a (by omega)))

theorem eqEventS (l : List S72) (hl : l.length ≤ 1048576) : Tot (fun k => laws_eqEventS.f k l l) (fun r => r = true) := by
  unfold laws_eqEventS.f
  refine tpos rfl ?_
  refine trec (σ := Int) (fun i k => laws_eqEventS.l0 k l l i) (fun i => ((l.length : Int) - i).toNat) (fun i => 0 ≤ i ∧ i ≤ (l.length : Int)) (fun _ r => r = true) ?_ 0 ⟨Int.le_refl _, by omega⟩
  rintro i ⟨h0, h1⟩ ih
  simp only [laws_eqEventS.l0, laws_eqEvent.f, if_true, Option.bind_some]
  refine tite (fun c => ?_) (fun c => tsome rfl)
  refine tpos h0 (tpos (by omega) ?_)
  rw [wrap64_id (by omega) (by omega)]
  exact ih (i + 1) ⟨by omega, by omega⟩ (by (try dsimp only); omega)

theorem szEventS (l : List S74) (n : Int) (hn : 0 ≤ n) (hn2 : n ≤ 1048576) (hl : l.length ≤ 9223372036854775807) : laws_szEventS.f l n = some (if n < l.length then -1 else n - l.length) := by
  unfold laws_szEventS.f
  simp (disch := omega) only [wrap64_id]
  by_cases h : n < l.length
  · rw [if_pos (by omega), if_pos h]
  · rw [if_neg (by omega), if_neg h]

theorem rd_eq (xs : List Int) (i : Int) : rd xs i = xs.getD i.toNat 0 := rfl

theorem ntPitch_eq (a : Int) : spec_ntPitch.f a = some (decide (24 ≤ a ∧ a ≤ 96)) := by
  unfold spec_ntPitch.f
  simp only [l1In_eq, Option.bind_some]

theorem gcd_step (a b : Int) (ha : 0 ≤ a) (hb : 0 < b) : 0 ≤ Int.tmod a b ∧ Int.tmod a b < b ∧ Nat.gcd b.toNat (Int.tmod a b).toNat = Nat.gcd a.toNat b.toNat := by
  obtain ⟨m, rfl⟩ := Int.eq_ofNat_of_zero_le ha
  obtain ⟨n, rfl⟩ := Int.eq_ofNat_of_zero_le (Int.le_of_lt hb)
  have e : Int.tmod (m : Int) (n : Int) = ((m % n : Nat) : Int) := rfl
  rw [e]
  have h1 : m % n < n := Nat.mod_lt _ (by omega)
  refine ⟨by omega, by omega, ?_⟩
  simp only [Int.toNat_natCast]
  rw [Nat.gcd_comm m n, Nat.gcd_rec n m, Nat.gcd_comm]
theorem gcd_tot (a b : Int) (ha : 0 ≤ a) (hb : 0 ≤ b) : Tot (fun k => impl_gcd.f k a b) (fun r => r = (Nat.gcd a.toNat b.toNat : Int)) := by
  unfold impl_gcd.f
  refine trec (σ := Int × Int) (fun s k => impl_gcd.l0 k s.1 s.2) (fun s => s.2.toNat) (fun s => 0 ≤ s.1 ∧ 0 ≤ s.2 ∧ Nat.gcd s.1.toNat s.2.toNat = Nat.gcd a.toNat b.toNat) (fun _ r => r = (Nat.gcd a.toNat b.toNat : Int)) ?_ (a, b) ⟨ha, hb, rfl⟩
  rintro ⟨x, y⟩ ⟨hx, hy, hg⟩ ih
  dsimp only at hx hy hg
  simp only [impl_gcd.l0]
  refine tite (fun c => tsome ?_) (fun c => ?_)
  · subst c
    rw [← hg]
    simp
    omega
  · obtain ⟨h1, h2, h3⟩ := gcd_step x y hx (by omega)
    exact ih (y, Int.tmod x y) ⟨hy, h1, by dsimp only; rw [h3, hg]⟩ (by dsimp only; omega)
theorem gcd_pos (a b : Int) (hb : 0 < b) : 0 < (Nat.gcd a.toNat b.toNat : Int) := by
  have : 0 < Nat.gcd a.toNat b.toNat := Nat.gcd_pos_of_pos_right _ (by omega)
  omega
theorem tdiv_eq (a g : Int) (ha : 0 ≤ a) (ha2 : a ≤ 4611686018427387904) (hg : 0 < g) : wrap64 (Int.tdiv a g) = a / g := by
  rw [Int.tdiv_eq_ediv_of_nonneg ha]
  have h1 : 0 ≤ a / g := Int.ediv_nonneg ha (by omega)
  have h2 : a / g ≤ a := Int.ediv_le_self _ ha
  exact wrap64_id (by omega) (by omega)

theorem noPart_tot (a b : Int) (ha : 0 ≤ a) (ha2 : a ≤ 4611686018427387904) (hb : 0 < b) (hb2 : b ≤ 4611686018427387904) : Tot (fun k => spec_noPart.f k a b) (fun r => r = (a / (Nat.gcd a.toNat b.toNat : Int), b / (Nat.gcd a.toNat b.toNat : Int))) := by
  unfold spec_noPart.f
  have habs : spec_l1Abs.f a = some a := by
    unfold spec_l1Abs.f spec_l1Most.f
    rw [wrap64_id (by omega) (by omega)]
    by_cases h : a > -a
    · rw [if_pos h]; rfl
    · rw [if_neg h]
      have : -a = a := by omega
      rw [this]; rfl
  rw [habs]
  simp only [Option.bind_some]
  have hg := gcd_pos a b hb
  refine trec (σ := Int × Int) (fun s k => spec_noPart.l0 k a b s.1 s.2) (fun s => s.2.toNat) (fun s => 0 ≤ s.1 ∧ 0 ≤ s.2 ∧ Nat.gcd s.1.toNat s.2.toNat = Nat.gcd a.toNat b.toNat) (fun _ r => r = (a / (Nat.gcd a.toNat b.toNat : Int), b / (Nat.gcd a.toNat b.toNat : Int))) ?_ (a, b) ⟨ha, by dsimp only; omega, rfl⟩
  rintro ⟨x, y⟩ ⟨hx, hy, hgx⟩ ih
  dsimp only at hx hy hgx
  simp only [spec_noPart.l0]
  refine tite (fun c => ?_) (fun c => ?_)
  · refine tneg (by omega) ?_
    obtain ⟨h1, h2, h3⟩ := gcd_step x y hx c
    exact ih (y, Int.tmod x y) ⟨hy, h1, by dsimp only; rw [h3, hgx]⟩ (by dsimp only; omega)
  · obtain rfl : y = 0 := by omega
    have e : x = (Nat.gcd a.toNat b.toNat : Int) := by
      rw [← hgx]; simp; omega
    refine tneg (by omega) ?_
    exact tsome (by rw [e, tdiv_eq a _ ha ha2 hg, tdiv_eq b _ (by omega) hb2 hg])

def OkEvent (a b c : Int) : Prop := (a = 0 ∨ (24 ≤ a ∧ a ≤ 96)) ∧ (1 ≤ b ∧ b ≤ 99) ∧ (1 ≤ c ∧ c ≤ 16) ∧ Nat.gcd b.toNat c.toNat = 1
theorem div_one {b g : Int} (hb : 0 < b) (hg : 0 < g) : b / g = b ↔ g = 1 := by
  constructor
  · intro h
    by_cases h1 : 1 < g
    · have h2 : b / g < b := by
        apply Int.ediv_lt_of_lt_mul hg
        have : b * 2 ≤ b * g := Int.mul_le_mul_of_nonneg_left (by omega) (by omega)
        omega
      omega
    · omega
  · intro h; subst h; simp
theorem noEvent_tot (a b c : Int) : Tot (fun k => spec_noEvent.f k a b c) (fun r => (r = true) ↔ OkEvent a b c) := by
  have hF : ¬ OkEvent a b c → Tot (fun _ => some false) (fun r => (r = true) ↔ OkEvent a b c) := fun h => tsome ⟨(fun g => by simp at g), (fun g => absurd g h)⟩
  have hT : (a = 0 ∨ (24 ≤ a ∧ a ≤ 96)) → (1 ≤ b ∧ b ≤ 99) → (1 ≤ c ∧ c ≤ 16) → Tot (fun k => (spec_noPart.f k b c).bind fun r => some (r.2 == c)) (fun r => (r = true) ↔ OkEvent a b c) := by
    intro h1 h2 h3
    refine tbind (noPart_tot b c (by omega) (by omega) (by omega) (by omega)) (fun _ e => ?_); subst e
    refine tsome ?_
    dsimp only
    rw [beq_iff_eq, div_one (by omega) (gcd_pos b c (by omega))]
    exact ⟨fun h => ⟨h1, h2, h3, by omega⟩, fun h => by have := h.2.2.2; omega⟩
  unfold spec_noEvent.f
  simp only [ntPitch_eq, l1In_eq, Option.bind_some, decide_eq_true_eq]
  refine tite (fun c0 => ?_) (fun c0 => tite (fun c1 => ?_) (fun c1 => hF (fun h => by have := h.1; omega)))
  all_goals
    refine tite (fun c2 => ?_) (fun c2 => hF (fun h => c2 h.2.1))
    refine tite (fun c3 => ?_) (fun c3 => hF (fun h => c3 h.2.2.1))
  · exact hT (.inl c0) c2 c3
  · exact hT (.inr c1) c2 c3
theorem implIsPitch_eq (a : Int) : impl_isPitch.f a = some (decide (24 ≤ a ∧ a ≤ 96)) := by
  unfold impl_isPitch.f
  by_cases h : 24 ≤ a <;> simp [h]
theorem isEvent_tot (a b c : Int) : Tot (fun k => impl_isEvent.f k a b c) (fun r => (r = true) ↔ OkEvent a b c) := by
  have hF : ¬ OkEvent a b c → Tot (fun _ => some false) (fun r => (r = true) ↔ OkEvent a b c) := fun h => tsome ⟨(fun g => by simp at g), (fun g => absurd g h)⟩
  have hT : (a = 0 ∨ (24 ≤ a ∧ a ≤ 96)) → 1 ≤ b → b ≤ 99 → 1 ≤ c → c ≤ 16 → Tot (fun k => (impl_gcd.f k b c).bind fun r => some (r == 1)) (fun r => (r = true) ↔ OkEvent a b c) := by
    intro h1 h2 h3 h4 h5
    refine tbind (gcd_tot b c (by omega) (by omega)) (fun _ e => ?_); subst e
    refine tsome ?_
    rw [beq_iff_eq]
    exact ⟨fun h => ⟨h1, ⟨h2, h3⟩, ⟨h4, h5⟩, by omega⟩, fun h => by have := h.2.2.2; omega⟩
  unfold impl_isEvent.f
  simp only [implIsPitch_eq, Option.bind_some, decide_eq_true_eq]
  refine tite (fun c0 => ?_) (fun c0 => tite (fun c1 => ?_) (fun c1 => hF (fun h => by have := h.1; omega)))
  all_goals
    refine tite (fun c2 => ?_) (fun c2 => hF (fun h => by have := h.2.1; omega))
    refine tite (fun c3 => ?_) (fun c3 => hF (fun h => by have := h.2.1; omega))
    refine tite (fun c4 => ?_) (fun c4 => hF (fun h => by have := h.2.2.1; omega))
    refine tite (fun c5 => ?_) (fun c5 => hF (fun h => by have := h.2.2.1; omega))
  · exact hT (.inl c0) c2 c3 c4 c5
  · exact hT (.inr c1) c2 c3 c4 c5
def VoC (l : List S72) (j : Int) : Prop := OkEvent (rd_T72 l j).f0 (rd_T72 l j).f1 (rd_T72 l j).f2
def VoGood (l : List S72) : Prop := (∀ j : Int, 0 ≤ j → j < (l.length : Int) → VoC l j) ∧ (l.length : Int) ≤ 20

theorem spec_noGood_tot (l : List S72) (hl : l.length ≤ 1048576) : Tot (fun k => spec_noGood.f k l) (fun b => (b = true) ↔ VoGood l) := by
  unfold spec_noGood.f
  refine trec (σ := Int) (fun i k => spec_noGood.l0 k l l (l.length : Int) i) (fun i => ((l.length : Int) - i).toNat) (fun i => 0 ≤ i ∧ i ≤ (l.length : Int))
    (fun i b => (b = true) ↔ ((∀ j : Int, i ≤ j → j < (l.length : Int) → VoC l j) ∧ (l.length : Int) ≤ 20)) ?_ 0 ⟨Int.le_refl _, by omega⟩
  rintro i ⟨h0, h1⟩ ih
  simp only [spec_noGood.l0]
  refine tite (fun c => ?_) (fun c => tsome (all_end c (by simp only [decide_eq_true_eq])))
  refine tpos h0 (tpos c ?_)
  refine tbind (noEvent_tot _ _ _) (fun b hb => ?_)
  refine tite (fun c2 => ?_) (fun c2 => tsome (all_no c (fun h => c2 (hb.2 h))))
  rw [wrap64_id (by omega) (by omega)]
  exact tmono (ih (i + 1) ⟨by omega, by omega⟩ (by (try dsimp only); omega)) (fun b2 hb2 => all_go c (hb.1 c2) hb2)

theorem impl_IsVoice_tot (l : List S72) (hl : l.length ≤ 1048576) : Tot (fun k => impl_IsVoice.f k l) (fun b => (b = true) ↔ VoGood l) := by
  unfold impl_IsVoice.f
  refine trec (σ := Int) (fun i k => impl_IsVoice.l0 k l l (l.length : Int) i) (fun i => ((l.length : Int) - i).toNat) (fun i => 0 ≤ i ∧ i ≤ (l.length : Int))
    (fun i b => (b = true) ↔ ((∀ j : Int, i ≤ j → j < (l.length : Int) → VoC l j) ∧ (l.length : Int) ≤ 20)) ?_ 0 ⟨Int.le_refl _, by omega⟩
  rintro i ⟨h0, h1⟩ ih
  simp only [impl_IsVoice.l0]
  refine tite (fun c => ?_) (fun c => tsome (all_end c (by simp only [decide_eq_true_eq])))
  refine tpos h0 (tpos c ?_)
  refine tbind (isEvent_tot _ _ _) (fun b hb => ?_)
  refine tite (fun c2 => ?_) (fun c2 => tsome (all_no c (fun h => c2 (hb.2 h))))
  rw [wrap64_id (by omega) (by omega)]
  exact tmono (ih (i + 1) ⟨by omega, by omega⟩ (by (try dsimp only); omega)) (fun b2 hb2 => all_go c (hb.1 c2) hb2)

theorem l1Most_eq (a b : Int) : spec_l1Most.f a b = some (mx a b) := by
  unfold spec_l1Most.f mx
  by_cases h : a > b
  · rw [if_pos h, if_neg (by omega)]
  · rw [if_neg h]
    by_cases h2 : a < b
    · rw [if_pos h2]
    · rw [if_neg h2]
      congr 1; omega

def voT (l : List S72) : Nat → Nat
  | 0 => 0
  | i + 1 => voT l i + (rd_T72 l i).f1.toNat * (720720 / (rd_T72 l i).f2.toNat)
theorem den_div (d : Nat) (h0 : 1 ≤ d) (h : d ≤ 16) : 720720 / d * d = 720720 := by
  have key : ∀ d : Nat, d < 17 → 0 < d → 720720 / d * d = 720720 := by decide
  exact key d (by omega) (by omega)
theorem den_le (d : Nat) : 720720 / d ≤ 720720 := Nat.div_le_self _ _
structure EvN (l : List S72) (i n d : Nat) : Prop where
  num : (rd_T72 l i).f1 = (n : Int)
  den : (rd_T72 l i).f2 = (d : Int)
  n1 : 1 ≤ n
  n2 : n ≤ 99
  d1 : 1 ≤ d
  d2 : d ≤ 16
theorem evN {l : List S72} {i : Nat} (h : VoC l i) : ∃ n d, EvN l i n d := by
  unfold VoC OkEvent at h
  exact ⟨(rd_T72 l i).f1.toNat, (rd_T72 l i).f2.toNat, ⟨by omega, by omega, by omega, by omega, by omega, by omega⟩⟩
theorem voT_succ {l : List S72} {i n d : Nat} (h : EvN l i n d) : voT l (i + 1) = voT l i + n * (720720 / d) := by
  conv => lhs; unfold voT
  rw [h.num, h.den, Int.toNat_natCast, Int.toNat_natCast]
def VoAll (l : List S72) : Prop := ∀ j : Int, 0 ≤ j → j < (l.length : Int) → VoC l j
theorem mul99 {n x : Nat} (hn : n ≤ 99) (hx : x ≤ 720720) : n * x ≤ 71351280 := by
  have h1 : n * x ≤ 99 * x := Nat.mul_le_mul_right _ hn
  omega
theorem voT_le {l : List S72} (hv : VoAll l) (i : Nat) (hi : i ≤ l.length) : voT l i ≤ i * 71351280 := by
  induction i with
  | zero => simp [voT]
  | succ i ih =>
    obtain ⟨n, d, h⟩ := evN (hv i (by omega) (by omega))
    rw [voT_succ h]
    have := ih (by omega)
    have := mul99 h.n2 (den_le d)
    omega
theorem rd_take {l : List S72} (i j : Nat) (h : j < i) : rd_T72 (l.take i) (j : Int) = rd_T72 l (j : Int) := by
  unfold rd_T72
  exact ld_take i (j : Int) (by omega) (by omega)
theorem voT_take {l : List S72} (i j : Nat) (h : j ≤ i) : voT (l.take i) j = voT l j := by
  induction j with
  | zero => rfl
  | succ j ih =>
    unfold voT
    rw [ih (by omega), rd_take i j (by omega)]
theorem VoAll.take {l : List S72} (hv : VoAll l) (i : Nat) : VoAll (l.take i) := by
  intro j h0 h1
  obtain ⟨m, rfl⟩ := Int.eq_ofNat_of_zero_le h0
  simp at h1
  have := hv m h0 (by omega)
  unfold VoC at this ⊢
  rw [rd_take i m (by omega)]
  exact this
/-- A fraction in lowest terms. -/
def low (p q : Nat) : Int × Int := (((p / Nat.gcd p q : Nat) : Int), ((q / Nat.gcd p q : Nat) : Int))
theorem low_eq (p q : Nat) : ((p : Int) / (Nat.gcd (p : Int).toNat (q : Int).toNat : Int), (q : Int) / (Nat.gcd (p : Int).toNat (q : Int).toNat : Int)) = low p q := by
  unfold low
  simp only [Int.toNat_natCast, Int.natCast_ediv]
theorem low_scale (p q s : Nat) (hs : 0 < s) : low (p * s) (q * s) = low p q := by
  unfold low
  rw [Nat.gcd_mul_right, Nat.mul_div_mul_right _ _ hs, Nat.mul_div_mul_right _ _ hs]
theorem low_unique {p q r s : Nat} (hq : 0 < q) (hs : 0 < s) (h : p * s = r * q) : low p q = low r s := by
  rw [← low_scale p q s hs, ← low_scale r s q hq, h, Nat.mul_comm q s]
structure LowN (p q a b g : Nat) : Prop where
  e : low p q = ((a : Int), (b : Int))
  p : p = a * g
  q : q = b * g
  g : 0 < g
theorem lowN (p q : Nat) (hq : 0 < q) : ∃ a b g, LowN p q a b g := by
  have hg : 0 < Nat.gcd p q := Nat.gcd_pos_of_pos_right _ hq
  exact ⟨p / Nat.gcd p q, q / Nat.gcd p q, Nat.gcd p q, ⟨rfl, (Nat.div_mul_cancel (Nat.gcd_dvd_left p q)).symm, (Nat.div_mul_cancel (Nat.gcd_dvd_right p q)).symm, hg⟩⟩
theorem LowN.b_pos {p q a b g : Nat} (h : LowN p q a b g) (hq : 0 < q) : 0 < b := by
  rcases Nat.eq_zero_or_pos b with h0 | h0
  · have := h.q
    rw [h0, Nat.zero_mul] at this
    omega
  · exact h0
theorem LowN.le {p q a b g : Nat} (h : LowN p q a b g) : a ≤ p ∧ b ≤ q := by
  have h1 : a * 1 ≤ a * g := Nat.mul_le_mul_left _ h.g
  have h2 : b * 1 ≤ b * g := Nat.mul_le_mul_left _ h.g
  rw [h.p, h.q]
  omega
theorem low_step {t a b g n d : Nat} (h : LowN t 720720 a b g) (hd1 : 1 ≤ d) (hd2 : d ≤ 16) : low (a * d + n * b) (b * d) = low (t + n * (720720 / d)) 720720 := by
  have hb := h.b_pos (by omega)
  refine low_unique (Nat.mul_pos hb (by omega)) (by omega) ?_
  have hw := h.q
  have hdd := den_div d hd1 hd2
  obtain ⟨x, hx⟩ : ∃ x, x = 720720 / d := ⟨_, rfl⟩
  rw [← hx] at hdd ⊢
  rw [h.p]
  calc (a * d + n * b) * 720720 = a * d * 720720 + n * b * 720720 := Nat.add_mul _ _ _
    _ = a * d * (b * g) + n * b * (x * d) := by rw [← hw, hdd]
    _ = a * g * (b * d) + n * x * (b * d) := by
      congr 1
      · ac_rfl
      · ac_rfl
    _ = (a * g + n * x) * (b * d) := (Nat.add_mul _ _ _).symm
theorem noPartN_tot (p q : Nat) (hp : p ≤ 4611686018427387904) (hq : 0 < q) (hq2 : q ≤ 4611686018427387904) (x y : Int) (hx : x = (p : Int)) (hy : y = (q : Int)) : Tot (fun k => spec_noPart.f k x y) (fun r => r = low p q) := by
  subst hx; subst hy
  have := noPart_tot (p : Int) (q : Int) (by omega) (by omega) (by omega) (by omega)
  rw [low_eq] at this
  exact this

theorem take_succ_map {α β : Type} (z : α) (f : α → β) (l : List α) (i : Nat) (h : i < l.length) : (l.take (i + 1)).map f = (l.take i).map f ++ [f (l.getD i z)] := by
  rw [List.take_succ_eq_append_getElem h, List.map_append]
  simp [List.getD, h]

def inpl {α : Type} (f : α → α) (l : List α) (i : Nat) : List α := (l.take i).map f ++ l.drop i
theorem inpl_len {α : Type} (f : α → α) (l : List α) (i : Nat) (h : i ≤ l.length) : (inpl f l i).length = l.length := by
  unfold inpl; simp; omega
theorem inpl_zero {α : Type} (f : α → α) (l : List α) : inpl f l 0 = l := by simp [inpl]
theorem inpl_end {α : Type} (f : α → α) (l : List α) : inpl f l l.length = l.map f := by simp [inpl]
theorem inpl_at {α : Type} (z : α) (f : α → α) (l : List α) (i : Nat) (h : i < l.length) : (inpl f l i).getD i z = l.getD i z := by
  unfold inpl
  have h1 : ((l.take i).map f).length = i := by simp; omega
  rw [List.getD, List.getElem?_append_right (by omega), h1, Nat.sub_self]
  simp [List.getD, h]
theorem inpl_set {α : Type} (z : α) (f : α → α) (l : List α) (i : Nat) (h : i < l.length) : (inpl f l i).set i (f (l.getD i z)) = inpl f l (i + 1) := by
  unfold inpl
  have h1 : ((l.take i).map f).length = i := by simp; omega
  rw [List.set_append_right _ _ (by omega), h1, Nat.sub_self, List.drop_eq_getElem_cons h, List.set_cons_zero, List.take_succ_eq_append_getElem h, List.map_append, List.append_assoc]
  simp [List.getD, h]
theorem take_up {α β : Type} (z : α) (f : α → β) (l : List α) (i : Nat) (h : i < l.length) : (l.take (i + 1)).map f = (l.take i).map f ++ [f (l.getD i z)] := by
  rw [List.take_succ_eq_append_getElem h, List.map_append]
  simp [List.getD, h]

theorem tlet {α β : Type} {v : α} {g : Nat → α → Option β} {Q : β → Prop} (h : Tot (fun k => g k v) Q) : Tot (fun k => (some v).bind fun y => g k y) Q := h
theorem take_drop_erase {α : Type} (l : List α) (m : Nat) : l.take m ++ l.drop (m + 1) = l.eraseIdx m := (List.eraseIdx_eq_take_drop_succ l m).symm
theorem wrapN1 (m : Nat) (h : m ≤ 1048576) : wrap64 ((m : Int) + 1) = ((m + 1 : Nat) : Int) := by rw [wrap64_id (by omega) (by omega)]; rfl
theorem erase_len {α : Type} (l : List α) (m : Nat) (h : l.length ≤ 1048576) : (l.eraseIdx m).length ≤ 1048576 := Nat.le_trans (List.length_eraseIdx_le l m) h

theorem tmonoEv {α : Type} {g : Nat → Option α} {r : α} (hg : ∀ k, LeO (g k) (g (k + 1))) {k : Nat} (h : g k = some r) : Tot g (fun y => y = r) := ⟨r, Ev.of hg h, rfl⟩
def decText (n : Nat) : ByteArray := ⟨(Lib.decDigits n).toArray⟩
theorem decText_small (u : Nat) (h : u < 10) : decText u = strOfNums ([(wrap64 (48 + (u : Int))) % 256] : List Int) := by
  unfold decText Lib.decDigits strOfNums
  rw [dif_pos h]
  have e : (wrap64 (48 + (u : Int))) % 256 = ((48 + u : Nat) : Int) := by unfold wrap64; omega
  rw [e]
  rfl
theorem decText_big (u : Nat) (h : ¬ u < 10) (h2 : u < 1000000000) : decText u = decText (u / 10) ++ strOfNums ([(wrap64 (48 + ((u % 10 : Nat) : Int))) % 256] : List Int) := by
  have e : (wrap64 (48 + ((u % 10 : Nat) : Int))) % 256 = ((48 + u % 10 : Nat) : Int) := by unfold wrap64; omega
  rw [e]
  have e1 : Lib.decDigits u = Lib.decDigits (u / 10) ++ [UInt8.ofNat (48 + u % 10)] := by
    conv => lhs; unfold Lib.decDigits
    rw [dif_neg h]
  unfold decText strOfNums
  rw [e1]
  apply ByteArray.ext
  simp
  rw [show (48 + (u : Int) % 10).toNat = 48 + u % 10 by omega, UInt8.ofNat_add]
  rfl
theorem decText_size (u : Nat) (h : u < 1000000000) : (decText u).size ≤ 9 ∧ 1 ≤ (decText u).size := by
  have key : ∀ (d u : Nat), u < 10 ^ (d + 1) → d ≤ 8 → (decText u).size ≤ d + 1 ∧ 1 ≤ (decText u).size := by
    intro d
    induction d with
    | zero => intro u hu _; rw [decText_small u (by omega)]; exact ⟨Nat.le_refl _, Nat.le_refl _⟩
    | succ d ih =>
      intro u hu hd
      by_cases h10 : u < 10
      · rw [decText_small u h10]
        exact ⟨by show 1 ≤ _; omega, Nat.le_refl _⟩
      · have hlt : u < 1000000000 := Nat.lt_of_lt_of_le hu (Nat.pow_le_pow_right (by omega) (show d + 1 + 1 ≤ 9 by omega))
        rw [decText_big u h10 hlt, ByteArray.size_append]
        have h1 := ih (u / 10) (by rw [Nat.pow_succ] at hu; omega) (by omega)
        have h2 : (strOfNums ([(wrap64 (48 + ((u % 10 : Nat) : Int))) % 256] : List Int)).size = 1 := rfl
        omega
  exact key 8 u (by omega) (by omega)
theorem l1Num_tot (u : Nat) (h : u < 1000000000) : Tot (fun k => spec_l1Num.f k (u : Int)) (fun r => r = decText u) := by
  induction u using Nat.strongRecOn with
  | ind u ih =>
    refine tstep ?_
    simp only [spec_l1Num.f]
    refine tite (fun c => tsome (decText_small u (by omega)).symm) (fun c => ?_)
    have e1 : wrap64 (Int.tdiv (u : Int) 10) = ((u / 10 : Nat) : Int) := by
      rw [Int.tdiv_eq_ediv_of_nonneg (by omega)]; unfold wrap64; omega
    have e2 : Int.tmod (u : Int) 10 = ((u % 10 : Nat) : Int) := by rw [Int.tmod_eq_emod_of_nonneg (by omega)]; omega
    rw [e1, e2]
    refine tbind (ih (u / 10) (by omega) (by omega)) (fun _ e => ?_); subst e
    show Tot (fun _ => if (decText (u / 10)).size + (strOfNums ([(wrap64 (48 + ((u % 10 : Nat) : Int))) % 256] : List Int)).size ≤ 9223372036854775807 then some (decText (u / 10) ++ strOfNums ([(wrap64 (48 + ((u % 10 : Nat) : Int))) % 256] : List Int)) else none) _
    have hs := (decText_size (u / 10) (by omega)).1
    have h2 : (strOfNums ([(wrap64 (48 + ((u % 10 : Nat) : Int))) % 256] : List Int)).size = 1 := rfl
    exact tpos (by omega) (tsome (decText_big u (by omega) h).symm)

def noteNames : List ByteArray := [(⟨#[99]⟩ : ByteArray), (⟨#[99, 35]⟩ : ByteArray), (⟨#[100]⟩ : ByteArray), (⟨#[100, 35]⟩ : ByteArray), (⟨#[101]⟩ : ByteArray), (⟨#[102]⟩ : ByteArray), (⟨#[102, 35]⟩ : ByteArray), (⟨#[103]⟩ : ByteArray), (⟨#[103, 35]⟩ : ByteArray), (⟨#[97]⟩ : ByteArray), (⟨#[97, 35]⟩ : ByteArray), (⟨#[98]⟩ : ByteArray)]
def pitchText (a : Int) : ByteArray := rdOf ByteArray.empty noteNames (a % 12) ++ decText (a / 12).toNat
theorem noteName_size (i : Int) (h0 : 0 ≤ i) (h1 : i < 12) : (rdOf ByteArray.empty noteNames i).size ≤ 2 ∧ 1 ≤ (rdOf ByteArray.empty noteNames i).size := by
  obtain rfl | rfl | rfl | rfl | rfl | rfl | rfl | rfl | rfl | rfl | rfl | rfl : i = 0 ∨ i = 1 ∨ i = 2 ∨ i = 3 ∨ i = 4 ∨ i = 5 ∨ i = 6 ∨ i = 7 ∨ i = 8 ∨ i = 9 ∨ i = 10 ∨ i = 11 := by omega
  all_goals decide
theorem pitchText_size (a : Int) (h0 : 24 ≤ a) (h1 : a ≤ 96) : (pitchText a).size ≤ 11 ∧ 1 ≤ (pitchText a).size := by
  unfold pitchText
  rw [ByteArray.size_append]
  have h := noteName_size (a % 12) (by omega) (by omega)
  have h2 := decText_size (a / 12).toNat (by omega)
  omega
theorem ntName_tot (a : Int) (h0 : 24 ≤ a) (h1 : a ≤ 96) : Tot (fun k => spec_ntName.f k a) (fun r => r = pitchText a) := by
  have e1 : wrap64 (Int.tdiv a 12) = (((a / 12).toNat : Nat) : Int) := by rw [Int.tdiv_eq_ediv_of_nonneg (by omega)]; unfold wrap64; omega
  have e2 : Int.tmod a 12 = a % 12 := Int.tmod_eq_emod_of_nonneg (by omega)
  unfold spec_ntName.f spec_ntNames.f
  simp only [e1, e2, Option.bind_some]
  refine tpos (by omega) (tpos (by simp; omega) ?_)
  refine tbind (l1Num_tot (a / 12).toNat (by omega)) (fun _ e => ?_); subst e
  have h := noteName_size (a % 12) (by omega) (by omega)
  have h2 := decText_size (a / 12).toNat (by omega)
  exact tpos (by unfold noteNames at h; omega) (tsome rfl)
theorem pitchName_eq (a : Int) (h0 : 24 ≤ a) (h1 : a ≤ 96) : impl_pitchName.f a = some (pitchText a) := by
  have e1 : wrap64 (Int.tdiv a 12) = (((a / 12).toNat : Nat) : Int) := by rw [Int.tdiv_eq_ediv_of_nonneg (by omega)]; unfold wrap64; omega
  have e2 : Int.tmod a 12 = a % 12 := Int.tmod_eq_emod_of_nonneg (by omega)
  unfold impl_pitchName.f itoa.f
  simp only [e1, e2, Option.bind_some]
  have h := noteName_size (a % 12) (by omega) (by omega)
  have h2 := decText_size (a / 12).toNat (by omega)
  unfold noteNames at h
  unfold decText at h2
  rw [if_pos (by omega), if_pos (by simp; omega), if_pos (by omega), if_pos (by omega)]
  simp only [Option.bind_some, Int.toNat_natCast]
  rw [if_pos (by omega)]
  rfl

theorem join_snoc (xs : List (List UInt8)) (y sep : List UInt8) (h : xs ≠ []) : Lib.join (xs ++ [y]) sep = Lib.join xs sep ++ (sep ++ y) := by
  cases xs with
  | nil => exact absurd rfl h
  | cons x r =>
    rw [List.cons_append, Lib.join_cons, Lib.join_cons, List.append_assoc]
    congr 1
    simp [Lib.joinTail]
theorem join_eq (xs : List ByteArray) (s : ByteArray) (hx : xs.length ≤ 1048576) (he : Lib.join (xs.map (·.data.toList)) [32] = s.data.toList) (hs : s.size ≤ 140737488355328) : join.f xs (⟨#[32]⟩ : ByteArray) = some (s, xs) := by
  have e32 : ((⟨#[32]⟩ : ByteArray)).data.toList = [32] := rfl
  have hl : s.data.toList.length = s.size := by rw [Array.length_toList]; rfl
  unfold join.f
  rw [e32, he, if_pos (by omega), if_pos (by omega)]

theorem words1_tot (a : Int) (h0 : 0 ≤ a) (h1 : a < 100) : Tot (fun k => impl_words.f k [a]) (fun r => r = decText a.toNat) := by
  have hd := (decText_size a.toNat (by omega)).1
  have e : itoa.f a = some (decText a.toNat) := by
    unfold itoa.f
    rw [if_pos h0, if_pos h1]
    rfl
  unfold impl_words.f
  refine tstep ?_
  simp only [impl_words.l0]
  refine tpos (by simp) (tpos (Int.le_refl _) (tpos (by simp) ?_))
  rw [show rd [a] 0 = a from rfl, e]
  simp only [Option.bind_some]
  refine tpos (by simp) ?_
  rw [show wrap64 (0 + 1) = 1 from wrap64_id (by omega) (by omega)]
  refine tstep ?_
  simp only [impl_words.l0]
  refine tneg (by simp) ?_
  rw [List.nil_append, join_eq [decText a.toNat] (decText a.toNat) (by simp) (by simp [Lib.join_one]) (by omega)]
  exact tsome rfl

def nameText (a : Int) : ByteArray := if a = 0 then (⟨#[114]⟩ : ByteArray) else pitchText a
def slotText (e : S72) : ByteArray := (((nameText e.f0 ++ (⟨#[42]⟩ : ByteArray)) ++ decText e.f1.toNat) ++ (⟨#[47]⟩ : ByteArray)) ++ decText e.f2.toNat
def voUpto (l : List S72) : Nat → ByteArray
  | 0 => ⟨#[]⟩
  | i + 1 => (if i = 0 then voUpto l i else voUpto l i ++ (⟨#[32]⟩ : ByteArray)) ++ slotText (rd_T72 l i)
def evUpto (l : List S72) : Nat → List ByteArray
  | 0 => []
  | i + 1 => evUpto l i ++ [slotText (rd_T72 l i)]
theorem evUpto_len (l : List S72) (i : Nat) : (evUpto l i).length = i := by
  induction i with
  | zero => rfl
  | succ i ih => simp [evUpto, ih]
theorem ev_join (l : List S72) (i : Nat) : Lib.join ((evUpto l i).map (·.data.toList)) [32] = (voUpto l i).data.toList := by
  induction i with
  | zero => rfl
  | succ i ih =>
    unfold evUpto voUpto
    rw [List.map_append, List.map_cons, List.map_nil]
    by_cases h : i = 0
    · subst h
      rw [if_pos rfl]
      simp [evUpto, voUpto, Lib.join_one]
    · rw [if_neg h, join_snoc _ _ _ (fun hn => h (by
        have := congrArg List.length hn
        simpa [evUpto_len] using this)), ih]
      simp
theorem nameText_size (a : Int) (h : a = 0 ∨ (24 ≤ a ∧ a ≤ 96)) : (nameText a).size ≤ 11 := by
  unfold nameText
  split
  · exact (by decide : (⟨#[114]⟩ : ByteArray).size ≤ 11)
  · exact (pitchText_size a (by omega) (by omega)).1
theorem slotText_size (e : S72) (h : OkEvent e.f0 e.f1 e.f2) : (slotText e).size ≤ 31 := by
  obtain ⟨h1, h2, h3, _⟩ := h
  have n1 := nameText_size e.f0 h1
  have d1 := (decText_size e.f1.toNat (by omega)).1
  have d2 := (decText_size e.f2.toNat (by omega)).1
  unfold slotText
  simp only [ByteArray.size_append, show (⟨#[42]⟩ : ByteArray).size = 1 from rfl, show (⟨#[47]⟩ : ByteArray).size = 1 from rfl]
  omega
theorem voUpto_size (l : List S72) (hg : VoGood l) (i : Nat) (hi : i ≤ l.length) : (voUpto l i).size ≤ 32 * i := by
  induction i with
  | zero => exact Nat.le_refl _
  | succ i ih =>
    have h1 := ih (by omega)
    have h2 := slotText_size _ (hg.1 i (by omega) (by omega))
    unfold voUpto
    split
    · rw [ByteArray.size_append]; omega
    · simp only [ByteArray.size_append, show (⟨#[32]⟩ : ByteArray).size = 1 from rfl]; omega
theorem noText_tot (l : List S72) (hg : VoGood l) : Tot (fun k => spec_noText.f k l) (fun r => r = voUpto l l.length) := by
  have hn := hg.2
  unfold spec_noText.f
  refine trec (σ := Nat) (fun i k => spec_noText.l0 k (voUpto l i) l (l.length : Int) (i : Int)) (fun i => l.length - i) (fun i => i ≤ l.length) (fun _ r => r = voUpto l l.length) ?_ 0 (Nat.zero_le _)
  intro i hi ih
  have hsz := voUpto_size l hg i hi
  simp only [spec_noText.l0]
  refine tite (fun c => ?_) (fun c => tsome (by rw [show i = l.length by omega]))
  refine tpos (by omega) (tpos c ?_)
  have hc := hg.1 i (by omega) c
  obtain ⟨h1, h2, h3, _⟩ := hc
  have d1 := (decText_size (rd_T72 l i).f1.toNat (by omega)).1
  have d2 := (decText_size (rd_T72 l i).f2.toNat (by omega)).1
  have n1 := nameText_size (rd_T72 l i).f0 h1
  have key : ∀ x : ByteArray, x.size ≤ 700 → x ++ slotText (rd_T72 l i) = voUpto l (i + 1) → Tot (fun k => spec_noText.j1 k x l (l.length : Int) (i : Int) (rd_T72 l i).f0 (rd_T72 l i).f1 (rd_T72 l i).f2) (fun r => r = voUpto l l.length) := by
    intro x hx he
    have go : ∀ y, y = voUpto l (i + 1) → Tot (fun k => spec_noText.l0 k y l (l.length : Int) (wrap64 ((i : Int) + 1))) (fun r => r = voUpto l l.length) := fun y hy => by
      rw [hy, wrap64_id (by omega) (by omega)]
      have := ih (i + 1) (by omega) (by omega)
      simpa using this
    have z42 : (⟨#[42]⟩ : ByteArray).size = 1 := rfl
    have z47 : (⟨#[47]⟩ : ByteArray).size = 1 := rfl
    have z114 : (⟨#[114]⟩ : ByteArray).size = 1 := rfl
    have b1 : Tot (fun k => spec_l1Num.f k (rd_T72 l i).f1) (fun r => r = decText (rd_T72 l i).f1.toNat) := by
      have := l1Num_tot (rd_T72 l i).f1.toNat (by omega)
      rwa [show (((rd_T72 l i).f1.toNat : Nat) : Int) = (rd_T72 l i).f1 by omega] at this
    have b2 : Tot (fun k => spec_l1Num.f k (rd_T72 l i).f2) (fun r => r = decText (rd_T72 l i).f2.toNat) := by
      have := l1Num_tot (rd_T72 l i).f2.toNat (by omega)
      rwa [show (((rd_T72 l i).f2.toNat : Nat) : Int) = (rd_T72 l i).f2 by omega] at this
    refine tstep ?_
    simp only [spec_noText.j1]
    refine tite (fun c2 => ?_) (fun c2 => ?_)
    · refine tbind (ntName_tot _ (by omega) (by omega)) (fun _ e => ?_); subst e
      have n2 := (pitchText_size (rd_T72 l i).f0 (by omega) (by omega)).1
      refine tpos (by omega) ?_
      refine tbind b1 (fun _ e => ?_); subst e
      refine tpos (by omega) (tpos (by simp only [ByteArray.size_append, z42]; omega) ?_)
      refine tbind b2 (fun _ e => ?_); subst e
      refine tpos (by simp only [ByteArray.size_append, z42, z47]; omega) (tpos (by simp only [ByteArray.size_append, z42, z47]; omega) ?_)
      refine go _ ?_
      rw [← he]
      unfold slotText nameText
      rw [if_neg (by omega)]
      simp only [ByteArray.append_assoc]
    · have e0 : (rd_T72 l i).f0 = 0 := by omega
      refine tpos (by omega) ?_
      refine tbind b1 (fun _ e => ?_); subst e
      refine tpos (by omega) (tpos (by simp only [ByteArray.size_append, z42]; omega) ?_)
      refine tbind b2 (fun _ e => ?_); subst e
      refine tpos (by simp only [ByteArray.size_append, z42, z47]; omega) (tpos (by simp only [ByteArray.size_append, z42, z47, z114]; omega) ?_)
      refine go _ ?_
      rw [← he]
      unfold slotText nameText
      rw [if_pos e0]
      simp only [ByteArray.append_assoc]
  refine tite (fun c2 => ?_) (fun c2 => ?_)
  · refine tpos (by omega) (key _ (by simp only [ByteArray.size_append, show (⟨#[32]⟩ : ByteArray).size = 1 from rfl]; omega) ?_)
    conv => rhs; unfold voUpto
    rw [if_neg (by omega)]
  · refine key _ (by omega) ?_
    conv => rhs; unfold voUpto
    rw [if_pos (by omega)]
theorem eventText_tot (e : S72) (h : OkEvent e.f0 e.f1 e.f2) : Tot (fun k => impl_eventText.f k e.f0 e.f1 e.f2) (fun r => r = slotText e) := by
  obtain ⟨h1, h2, h3, _⟩ := h
  have d1 := (decText_size e.f1.toNat (by omega)).1
  have d2 := (decText_size e.f2.toNat (by omega)).1
  have z42 : (⟨#[42]⟩ : ByteArray).size = 1 := rfl
  have z47 : (⟨#[47]⟩ : ByteArray).size = 1 := rfl
  have z114 : (⟨#[114]⟩ : ByteArray).size = 1 := rfl
  unfold impl_eventText.f
  refine tite (fun c => ?_) (fun c => ?_)
  · refine tpos (by omega) ?_
    refine tbind (words1_tot _ (by omega) (by omega)) (fun _ e => ?_); subst e
    refine tpos (by omega) (tpos (by simp only [ByteArray.size_append, z42, z114]; omega) ?_)
    refine tbind (words1_tot _ (by omega) (by omega)) (fun _ e => ?_); subst e
    refine tpos (by simp only [ByteArray.size_append, z42, z47, z114]; omega) (tsome ?_)
    unfold slotText nameText
    rw [if_pos c]
  · have n2 := (pitchText_size e.f0 (by omega) (by omega)).1
    simp only [pitchName_eq e.f0 (by omega) (by omega), Option.bind_some]
    refine tpos (by omega) ?_
    refine tbind (words1_tot _ (by omega) (by omega)) (fun _ e => ?_); subst e
    refine tpos (by simp only [ByteArray.size_append, z42]; omega) (tpos (by simp only [ByteArray.size_append, z42]; omega) ?_)
    refine tbind (words1_tot _ (by omega) (by omega)) (fun _ e => ?_); subst e
    refine tpos (by simp only [ByteArray.size_append, z42, z47]; omega) (tsome ?_)
    unfold slotText nameText
    rw [if_neg c]
theorem implVoiceText_tot (l : List S72) (hg : VoGood l) : Tot (fun k => impl_VoiceText.l0 k [] l (l.length : Int) 0) (fun r => r = (voUpto l l.length, true)) := by
  have hn := hg.2
  refine trec (σ := Nat) (fun i k => impl_VoiceText.l0 k (evUpto l i) l (l.length : Int) (i : Int)) (fun i => l.length - i) (fun i => i ≤ l.length) (fun _ r => r = (voUpto l l.length, true)) ?_ 0 (Nat.zero_le _)
  intro i hi ih
  simp only [impl_VoiceText.l0]
  refine tite (fun c => ?_) (fun c => ?_)
  · refine tpos (by omega) (tpos c ?_)
    refine tbind (eventText_tot (rd_T72 l i) (hg.1 i (by omega) c)) (fun _ e => ?_); subst e
    refine tpos (by rw [evUpto_len]; omega) ?_
    rw [wrap64_id (by omega) (by omega)]
    have := ih (i + 1) (by omega) (by omega)
    simpa [evUpto] using this
  · obtain rfl : i = l.length := by omega
    have hs := voUpto_size l hg l.length (Nat.le_refl _)
    rw [join_eq (evUpto l l.length) (voUpto l l.length) (by rw [evUpto_len]; omega) (ev_join l l.length) (by omega)]
    exact tsome rfl
theorem voiceText_agree (l : List S72) (hl : l.length ≤ 1048576) : ∃ r, Tot (fun k => spec_VoiceText.f k l) (fun y => y = r) ∧ Tot (fun k => impl_VoiceText.f k l) (fun y => y = r) := by
  by_cases hg : VoGood l
  · refine ⟨(voUpto l l.length, true), ?_, ?_⟩
    · unfold spec_VoiceText.f
      refine tbind (spec_noGood_tot l hl) (fun b h => tpos (h.2 hg) ?_)
      exact tbind (noText_tot l hg) (fun _ e => by subst e; exact tsome rfl)
    · unfold impl_VoiceText.f
      exact tbind (impl_IsVoice_tot l hl) (fun b h => tpos (h.2 hg) (implVoiceText_tot l hg))
  · refine ⟨(⟨#[]⟩, false), ?_, ?_⟩
    · unfold spec_VoiceText.f
      exact tbind (spec_noGood_tot l hl) (fun b h => tneg (fun hb => hg (h.1 hb)) (tsome rfl))
    · unfold impl_VoiceText.f
      exact tbind (impl_IsVoice_tot l hl) (fun b h => tneg (fun hb => hg (h.1 hb)) (tsome rfl))


theorem FnExactVoiceText (l0 : List (S74)) (hm0 : l0.length ≤ 9223372036854775807) (hw0 : ∀ y ∈ l0, Glue.wf64 y.f0 ∧ Glue.wf64 y.f1 ∧ Glue.wf64 y.f2) : ∃ k, laws_FnExactVoiceText.f k l0 = some true := by
  refine rounds ?_
  unfold laws_FnExactVoiceText.f
  rw [szEventS l0 (1048576 : Int) (by omega) (by omega) hm0]
  simp only [Option.bind_some]
  by_cases hl0 : (1048576 : Int) < (l0.length : Int)
  · simp only [if_pos hl0]; exact tpos (by omega) (tsome rfl)
  simp only [if_neg hl0]
  refine tneg (by omega) ?_
  obtain ⟨r, hS, hI⟩ := voiceText_agree (l0.map cvEvent) (by simp; omega)
  repeat first
    | exact tsome rfl
    | (refine tbind hS (fun _ e => ?_); subst e)
    | (refine tbind hI (fun _ e => ?_); subst e)
    | (refine tbind (toEventS l0 (by omega)) (fun _ e => ?_); subst e)
    | (refine tbind (eqEventS _ (by first | omega | (dsimp only; omega) | (simp; omega) | assumption)) (fun _ e => ?_); subst e)
    | refine tpos rfl ?_
    | refine tneg (by dsimp only; omega) ?_
    | refine tneg (by omega) ?_
    | refine tneg (by simp; done) ?_
    | refine tpos (by dsimp only) ?_
    | (refine tstep ?_; simp only [laws_FnExactVoiceText.j0])
end Go.Proofs.YtgeipgflhjakjaaDoor.Pure
