/- The plain side of the law FnExactInstrumentText: lists and numbers alone. -/
import Derived.Test.YtjgpngeifgcidaaDoorPFnExactInstrumentTextx3
import Derived.Test.YtjgpngeifgcidaaDoorGlue
import Derived.Test.YtjgpngeifgcidaaDoorTot
set_option linter.unusedVariables false
set_option linter.unusedSimpArgs false
namespace Go.Proofs.YtjgpngeifgcidaaDoor.Pure
open Go.RowKit Go.Proofs.YtjgpngeifgcidaaDoor.PFnExactInstrumentText Go.Proofs.YtjgpngeifgcidaaDoorW.PrintWords Go.Proofs.YtjgpngeifgcidaaDoorW.PrintMore Go.Proofs.YtjgpngeifgcidaaDoor.Tot

theorem l1In_eq (a b c : Int) : spec_l1In.f a b c = some (decide (b ≤ a ∧ a ≤ c)) := by
  unfold spec_l1In.f
  by_cases h : b ≤ a <;> simp [h]

theorem rd_eq (xs : List Int) (i : Int) : rd xs i = xs.getD i.toNat 0 := rfl

theorem toIntS (l : List Int) (hl : l.length ≤ 1048576) : Tot (fun k => laws_toIntS.f k l) (fun r => r = l) := by
  unfold laws_toIntS.f
  refine tpos (by omega) (tpos (by omega) ?_)
  have key := trec (σ := List Int × Int) (fun s k => laws_toIntS.l0 k l s.1 s.2) (fun s => ((l.length : Int) - s.2).toNat)
    (fun s => 0 ≤ s.2 ∧ s.2 ≤ (l.length : Int) ∧ s.1.length = l.length ∧ ∀ j : Int, 0 ≤ j → j < s.2 → s.1.getD j.toNat 0 = l.getD j.toNat 0) (fun _ r => r = l) ?_
  · exact key (List.replicate (l.length : Int).toNat 0, 0) ⟨Int.le_refl _, by dsimp only; omega, by simp, fun j h0 h1 => by dsimp only at h1; omega⟩
  · rintro ⟨ys, i⟩ ⟨h0, h1, h2, h3⟩ ih
    dsimp only at h0 h1 h2 h3
    simp only [laws_toIntS.l0]
    refine tite (fun c => ?_) (fun c => ?_)
    · refine tpos h0 (tpos (by omega) ?_)
      rw [wrap64_id (by omega) (by omega)]
      refine ih (_, i + 1) ⟨by dsimp only; omega, by dsimp only; omega, by simp [h2], ?_⟩ (by dsimp only; omega)
      intro j hj0 hj1
      dsimp only at hj1 ⊢
      by_cases e : j = i
      · subst e; rw [ld_set_self _ _ (by omega) hj0]; rfl
      · rw [ld_set_ne _ _ _ h0 hj0 (by omega)]; exact h3 j hj0 (by omega)
    · exact tsome (ld_ext (z := 0) h2 (fun j a b => h3 j a (by omega)))

theorem eqIntS (l : List Int) (hl : l.length ≤ 1048576) : Tot (fun k => laws_eqIntS.f k l l) (fun r => r = true) := by
  unfold laws_eqIntS.f
  refine tpos rfl ?_
  refine trec (σ := Int) (fun i k => laws_eqIntS.l0 k l l i) (fun i => ((l.length : Int) - i).toNat) (fun i => 0 ≤ i ∧ i ≤ (l.length : Int)) (fun _ r => r = true) ?_ 0 ⟨Int.le_refl _, by omega⟩
  rintro i ⟨h0, h1⟩ ih
  simp only [laws_eqIntS.l0, if_true]
  refine tite (fun c => ?_) (fun c => tsome rfl)
  refine tpos h0 (tpos (by omega) ?_)
  rw [wrap64_id (by omega) (by omega)]
  exact ih (i + 1) ⟨by omega, by omega⟩ (by (try dsimp only); omega)

theorem szIntS (l : List Int) (n : Int) (hn : 0 ≤ n) (hn2 : n ≤ 1048576) (hl : l.length ≤ 9223372036854775807) : laws_szIntS.f l n = some (if n < l.length then -1 else n - l.length) := by
  unfold laws_szIntS.f
  simp only [wrap64_id (x := n - (l.length : Int)) (by omega) (by omega)]
  by_cases h : n < l.length
  · rw [if_pos (by omega), if_pos h]
  · rw [if_neg (by omega), if_neg h]

theorem toInstrument (l : List Int) (a : Int) (hl : l.length ≤ 1048576) : Tot (fun k => laws_toInstrument.f k l a) (fun r => r = (l, a)) := by
  unfold laws_toInstrument.f
  refine tbind (toIntS l hl) (fun _ e => ?_); subst e
  exact tsome rfl
theorem eqInstrument (l : List Int) (a : Int) (hl : l.length ≤ 1048576) : Tot (fun k => laws_eqInstrument.f k l a l a) (fun r => r = true) := by
  unfold laws_eqInstrument.f
  refine tbind (eqIntS l hl) (fun _ e => ?_); subst e
  exact tpos rfl (tpos rfl (tsome rfl))
theorem szInstrument (l : List Int) (a n : Int) (hn : 0 ≤ n) (hn2 : n ≤ 1048576) (hl : l.length ≤ 9223372036854775807) : laws_szInstrument.f l a n = some (if n < l.length then -1 else n - l.length) := by
  unfold laws_szInstrument.f
  rw [szIntS l n hn hn2 hl]
  simp only [Option.bind_some]
  by_cases h : n < l.length
  · simp only [if_pos h]; rw [if_pos (by omega)]
  · simp only [if_neg h]; rw [if_neg (by omega)]

theorem isPitch_eq (a : Int) : impl_isPitch.f a = some (decide (24 ≤ a ∧ a ≤ 96)) := by
  unfold impl_isPitch.f
  by_cases h : 24 ≤ a <;> simp [h]
def InC (l : List Int) (j : Int) : Prop := 24 ≤ rd l j ∧ rd l j ≤ 96 ∧ (0 < j → rd l (j - 1) < rd l j)
def InGood (l : List Int) (a : Int) : Prop := (∀ j : Int, 0 ≤ j → j < (l.length : Int) → InC l j) ∧ (1 ≤ (l.length : Int) ∧ (l.length : Int) ≤ 20 ∧ 1 ≤ a ∧ a ≤ 20)
theorem l1Rising_tot (l : List Int) (hl : l.length ≤ 1048576) : Tot (fun k => spec_l1Rising.f k l 24 96) (fun b => (b = true) ↔ ((∀ j : Int, 0 ≤ j → j < (l.length : Int) → InC l j) ∧ True)) := by
  unfold spec_l1Rising.f
  refine trec (σ := Int) (fun i k => spec_l1Rising.l0 k l 24 96 l (l.length : Int) i) (fun i => ((l.length : Int) - i).toNat) (fun i => 0 ≤ i ∧ i ≤ (l.length : Int))
    (fun i b => (b = true) ↔ ((∀ j : Int, i ≤ j → j < (l.length : Int) → InC l j) ∧ True)) ?_ 0 ⟨Int.le_refl _, by omega⟩
  rintro i ⟨h0, h1⟩ ih
  simp only [spec_l1Rising.l0, l1In_eq, Option.bind_some, decide_eq_true_eq]
  simp only [show wrap64 (i + 1) = i + 1 from wrap64_id (by omega) (by omega), show wrap64 (i - 1) = i - 1 from wrap64_id (by omega) (by omega)]
  repeat' (refine tite (fun _ => ?_) (fun _ => ?_))
  all_goals first
    | (exfalso; omega)
    | exact tsome (all_no (by omega) (by unfold InC; omega))
    | exact tmono (ih (i + 1) ⟨by omega, by omega⟩ (by (try dsimp only); omega)) (fun b hb => all_go (by omega) (by unfold InC; omega) hb)
    | exact tsome (all_end (by omega) (by simp))
theorem inGood_tot (l : List Int) (a : Int) (hl : l.length ≤ 1048576) : Tot (fun k => spec_inGood.f k l a) (fun b => (b = true) ↔ InGood l a) := by
  unfold spec_inGood.f
  simp only [l1In_eq, Option.bind_some, decide_eq_true_eq]
  refine tite (fun c => ?_) (fun c => tsome ⟨(fun h => by simp at h), (fun h => by have := h.2; omega)⟩)
  refine tbind (l1Rising_tot l hl) (fun b hb => ?_)
  refine tite (fun c2 => ?_) (fun c2 => tsome ⟨(fun h => by simp at h), (fun h => absurd (hb.2 ⟨h.1, trivial⟩) c2)⟩)
  refine tsome ?_
  have := (hb.1 c2).1
  unfold InGood
  simp only [decide_eq_true_eq]
  exact ⟨fun h => ⟨this, by omega⟩, fun h => by omega⟩
theorem isInstrument_tot (l : List Int) (a : Int) (hl : l.length ≤ 1048576) : Tot (fun k => impl_IsInstrument.f k l a) (fun b => (b = true) ↔ InGood l a) := by
  have key : 1 ≤ (l.length : Int) → (l.length : Int) ≤ 20 → 1 ≤ a → a ≤ 20 → Tot (fun k => impl_IsInstrument.l0 k l (l.length : Int) 0 l a) (fun b => (b = true) ↔ InGood l a) := by
    intro g1 g2 g3 g4
    refine tmono (trec (σ := Int) (fun i k => impl_IsInstrument.l0 k l (l.length : Int) i l a) (fun i => ((l.length : Int) - i).toNat) (fun i => 0 ≤ i ∧ i ≤ (l.length : Int))
      (fun i b => (b = true) ↔ ((∀ j : Int, i ≤ j → j < (l.length : Int) → InC l j) ∧ True)) ?_ 0 ⟨Int.le_refl _, by omega⟩) (fun b hb => ?_)
    · rintro i ⟨h0, h1⟩ ih
      simp only [impl_IsInstrument.l0, isPitch_eq, Option.bind_some, decide_eq_true_eq]
      simp only [show wrap64 (i + 1) = i + 1 from wrap64_id (by omega) (by omega), show wrap64 (i - 1) = i - 1 from wrap64_id (by omega) (by omega)]
      repeat' (refine tite (fun _ => ?_) (fun _ => ?_))
      all_goals first
        | (exfalso; omega)
        | exact tsome (all_no (by omega) (by unfold InC; omega))
        | exact tmono (ih (i + 1) ⟨by omega, by omega⟩ (by (try dsimp only); omega)) (fun b hb => all_go (by omega) (by unfold InC; omega) hb)
        | exact tsome (all_end (by omega) (by simp))
    · rw [hb]; unfold InGood
      exact ⟨fun h => ⟨h.1, g1, g2, g3, g4⟩, fun h => ⟨h.1, trivial⟩⟩
  have no : ¬ InGood l a → Tot (fun k => impl_IsInstrument.j0 k true l a) (fun b => (b = true) ↔ InGood l a) := by
    intro hn
    refine tstep ?_
    simp only [impl_IsInstrument.j0, if_true]
    exact tsome ⟨(fun h => by simp at h), (fun h => absurd h hn)⟩
  unfold impl_IsInstrument.f
  refine tite (fun c => no (fun h => by have := h.2; omega)) (fun c1 => ?_)
  refine tite (fun c => no (fun h => by have := h.2; omega)) (fun c2 => ?_)
  refine tite (fun c => no (fun h => by have := h.2; omega)) (fun c3 => ?_)
  by_cases h : a > 20
  · rw [decide_eq_true h]
    exact no (fun h => by have := h.2; omega)
  · rw [decide_eq_false h]
    refine tstep ?_
    simp only [impl_IsInstrument.j0]
    exact tneg (by simp) (key (by omega) (by omega) (by omega) (by omega))

def inpl {α : Type} (f : α → α) (l : List α) (i : Nat) : List α := (l.take i).map f ++ l.drop i
theorem inpl_len {α : Type} (f : α → α) (l : List α) (i : Nat) (h : i ≤ l.length) : (inpl f l i).length = l.length := by
  unfold inpl; simp; omega
theorem inpl_zero {α : Type} (f : α → α) (l : List α) : inpl f l 0 = l := by simp [inpl]
theorem inpl_end {α : Type} (f : α → α) (l : List α) : inpl f l l.length = l.map f := by simp [inpl]
theorem inpl_at {α : Type} (z : α) (f : α → α) (l : List α) (i : Nat) (h : i < l.length) : (inpl f l i).getD i z = l.getD i z := by
  unfold inpl
  have h1 : ((l.take i).map f).length = i := by simp; omega
  rw [List.getD, List.getElem?_append_right (by omega), h1, Nat.sub_self]
  simp [List.getD, h]
theorem inpl_set {α : Type} (z : α) (f : α → α) (l : List α) (i : Nat) (h : i < l.length) : (inpl f l i).set i (f (l.getD i z)) = inpl f l (i + 1) := by
  unfold inpl
  have h1 : ((l.take i).map f).length = i := by simp; omega
  rw [List.set_append_right _ _ (by omega), h1, Nat.sub_self, List.drop_eq_getElem_cons h, List.set_cons_zero, List.take_succ_eq_append_getElem h, List.map_append, List.append_assoc]
  simp [List.getD, h]
theorem take_up {α β : Type} (z : α) (f : α → β) (l : List α) (i : Nat) (h : i < l.length) : (l.take (i + 1)).map f = (l.take i).map f ++ [f (l.getD i z)] := by
  rw [List.take_succ_eq_append_getElem h, List.map_append]
  simp [List.getD, h]

theorem tlet {α β : Type} {v : α} {g : Nat → α → Option β} {Q : β → Prop} (h : Tot (fun k => g k v) Q) : Tot (fun k => (some v).bind fun y => g k y) Q := h
theorem take_drop_erase {α : Type} (l : List α) (m : Nat) : l.take m ++ l.drop (m + 1) = l.eraseIdx m := (List.eraseIdx_eq_take_drop_succ l m).symm
theorem wrapN1 (m : Nat) (h : m ≤ 1048576) : wrap64 ((m : Int) + 1) = ((m + 1 : Nat) : Int) := by rw [wrap64_id (by omega) (by omega)]; rfl
theorem erase_len {α : Type} (l : List α) (m : Nat) (h : l.length ≤ 1048576) : (l.eraseIdx m).length ≤ 1048576 := Nat.le_trans (List.length_eraseIdx_le l m) h

theorem tmonoEv {α : Type} {g : Nat → Option α} {r : α} (hg : ∀ k, LeO (g k) (g (k + 1))) {k : Nat} (h : g k = some r) : Tot g (fun y => y = r) := ⟨r, Ev.of hg h, rfl⟩
def decText (n : Nat) : ByteArray := ⟨(Lib.decDigits n).toArray⟩
theorem decText_small (u : Nat) (h : u < 10) : decText u = strOfNums ([(wrap64 (48 + (u : Int))) % 256] : List Int) := by
  unfold decText Lib.decDigits strOfNums
  rw [dif_pos h]
  have e : (wrap64 (48 + (u : Int))) % 256 = ((48 + u : Nat) : Int) := by unfold wrap64; omega
  rw [e]
  rfl
theorem decText_big (u : Nat) (h : ¬ u < 10) (h2 : u < 1000000000) : decText u = decText (u / 10) ++ strOfNums ([(wrap64 (48 + ((u % 10 : Nat) : Int))) % 256] : List Int) := by
  have e : (wrap64 (48 + ((u % 10 : Nat) : Int))) % 256 = ((48 + u % 10 : Nat) : Int) := by unfold wrap64; omega
  rw [e]
  have e1 : Lib.decDigits u = Lib.decDigits (u / 10) ++ [UInt8.ofNat (48 + u % 10)] := by
    conv => lhs; unfold Lib.decDigits
    rw [dif_neg h]
  unfold decText strOfNums
  rw [e1]
  apply ByteArray.ext
  simp
  rw [show (48 + (u : Int) % 10).toNat = 48 + u % 10 by omega, UInt8.ofNat_add]
  rfl
theorem decText_size (u : Nat) (h : u < 1000000000) : (decText u).size ≤ 9 ∧ 1 ≤ (decText u).size := by
  have key : ∀ (d u : Nat), u < 10 ^ (d + 1) → d ≤ 8 → (decText u).size ≤ d + 1 ∧ 1 ≤ (decText u).size := by
    intro d
    induction d with
    | zero => intro u hu _; rw [decText_small u (by omega)]; exact ⟨Nat.le_refl _, Nat.le_refl _⟩
    | succ d ih =>
      intro u hu hd
      by_cases h10 : u < 10
      · rw [decText_small u h10]
        exact ⟨by show 1 ≤ _; omega, Nat.le_refl _⟩
      · have hlt : u < 1000000000 := Nat.lt_of_lt_of_le hu (Nat.pow_le_pow_right (by omega) (show d + 1 + 1 ≤ 9 by omega))
        rw [decText_big u h10 hlt, ByteArray.size_append]
        have h1 := ih (u / 10) (by rw [Nat.pow_succ] at hu; omega) (by omega)
        have h2 : (strOfNums ([(wrap64 (48 + ((u % 10 : Nat) : Int))) % 256] : List Int)).size = 1 := rfl
        omega
  exact key 8 u (by omega) (by omega)
theorem l1Num_tot (u : Nat) (h : u < 1000000000) : Tot (fun k => spec_l1Num.f k (u : Int)) (fun r => r = decText u) := by
  induction u using Nat.strongRecOn with
  | ind u ih =>
    refine tstep ?_
    simp only [spec_l1Num.f]
    refine tite (fun c => tsome (decText_small u (by omega)).symm) (fun c => ?_)
    have e1 : wrap64 (Int.tdiv (u : Int) 10) = ((u / 10 : Nat) : Int) := by
      rw [Int.tdiv_eq_ediv_of_nonneg (by omega)]; unfold wrap64; omega
    have e2 : Int.tmod (u : Int) 10 = ((u % 10 : Nat) : Int) := by rw [Int.tmod_eq_emod_of_nonneg (by omega)]; omega
    rw [e1, e2]
    refine tbind (ih (u / 10) (by omega) (by omega)) (fun _ e => ?_); subst e
    show Tot (fun _ => if (decText (u / 10)).size + (strOfNums ([(wrap64 (48 + ((u % 10 : Nat) : Int))) % 256] : List Int)).size ≤ 9223372036854775807 then some (decText (u / 10) ++ strOfNums ([(wrap64 (48 + ((u % 10 : Nat) : Int))) % 256] : List Int)) else none) _
    have hs := (decText_size (u / 10) (by omega)).1
    have h2 : (strOfNums ([(wrap64 (48 + ((u % 10 : Nat) : Int))) % 256] : List Int)).size = 1 := rfl
    exact tpos (by omega) (tsome (decText_big u (by omega) h).symm)

def noteNames : List ByteArray := [(⟨#[99]⟩ : ByteArray), (⟨#[99, 35]⟩ : ByteArray), (⟨#[100]⟩ : ByteArray), (⟨#[100, 35]⟩ : ByteArray), (⟨#[101]⟩ : ByteArray), (⟨#[102]⟩ : ByteArray), (⟨#[102, 35]⟩ : ByteArray), (⟨#[103]⟩ : ByteArray), (⟨#[103, 35]⟩ : ByteArray), (⟨#[97]⟩ : ByteArray), (⟨#[97, 35]⟩ : ByteArray), (⟨#[98]⟩ : ByteArray)]
def pitchText (a : Int) : ByteArray := rdOf ByteArray.empty noteNames (a % 12) ++ decText (a / 12).toNat
theorem noteName_size (i : Int) (h0 : 0 ≤ i) (h1 : i < 12) : (rdOf ByteArray.empty noteNames i).size ≤ 2 ∧ 1 ≤ (rdOf ByteArray.empty noteNames i).size := by
  obtain rfl | rfl | rfl | rfl | rfl | rfl | rfl | rfl | rfl | rfl | rfl | rfl : i = 0 ∨ i = 1 ∨ i = 2 ∨ i = 3 ∨ i = 4 ∨ i = 5 ∨ i = 6 ∨ i = 7 ∨ i = 8 ∨ i = 9 ∨ i = 10 ∨ i = 11 := by omega
  all_goals decide
theorem pitchText_size (a : Int) (h0 : 24 ≤ a) (h1 : a ≤ 96) : (pitchText a).size ≤ 11 ∧ 1 ≤ (pitchText a).size := by
  unfold pitchText
  rw [ByteArray.size_append]
  have h := noteName_size (a % 12) (by omega) (by omega)
  have h2 := decText_size (a / 12).toNat (by omega)
  omega
theorem ntName_tot (a : Int) (h0 : 24 ≤ a) (h1 : a ≤ 96) : Tot (fun k => spec_ntName.f k a) (fun r => r = pitchText a) := by
  have e1 : wrap64 (Int.tdiv a 12) = (((a / 12).toNat : Nat) : Int) := by rw [Int.tdiv_eq_ediv_of_nonneg (by omega)]; unfold wrap64; omega
  have e2 : Int.tmod a 12 = a % 12 := Int.tmod_eq_emod_of_nonneg (by omega)
  unfold spec_ntName.f spec_ntNames.f
  simp only [e1, e2, Option.bind_some]
  refine tpos (by omega) (tpos (by simp; omega) ?_)
  refine tbind (l1Num_tot (a / 12).toNat (by omega)) (fun _ e => ?_); subst e
  have h := noteName_size (a % 12) (by omega) (by omega)
  have h2 := decText_size (a / 12).toNat (by omega)
  exact tpos (by unfold noteNames at h; omega) (tsome rfl)
theorem pitchName_eq (a : Int) (h0 : 24 ≤ a) (h1 : a ≤ 96) : impl_pitchName.f a = some (pitchText a) := by
  have e1 : wrap64 (Int.tdiv a 12) = (((a / 12).toNat : Nat) : Int) := by rw [Int.tdiv_eq_ediv_of_nonneg (by omega)]; unfold wrap64; omega
  have e2 : Int.tmod a 12 = a % 12 := Int.tmod_eq_emod_of_nonneg (by omega)
  unfold impl_pitchName.f itoa.f
  simp only [e1, e2, Option.bind_some]
  have h := noteName_size (a % 12) (by omega) (by omega)
  have h2 := decText_size (a / 12).toNat (by omega)
  unfold noteNames at h
  unfold decText at h2
  rw [if_pos (by omega), if_pos (by simp; omega), if_pos (by omega), if_pos (by omega)]
  simp only [Option.bind_some, Int.toNat_natCast]
  rw [if_pos (by omega)]
  rfl

def insUpto (l : List Int) : Nat → ByteArray
  | 0 => ⟨#[]⟩
  | i + 1 => insUpto l i ++ (pitchText (rd l i) ++ (⟨#[32]⟩ : ByteArray))
theorem space_size (x : ByteArray) : (x ++ (⟨#[32]⟩ : ByteArray)).size = x.size + 1 := by rw [ByteArray.size_append]; rfl
theorem insUpto_size (l : List Int) (a : Int) (hg : InGood l a) (i : Nat) (hi : i ≤ l.length) : (insUpto l i).size ≤ 12 * i := by
  induction i with
  | zero => exact Nat.le_refl _
  | succ i ih =>
    have := ih (by omega)
    have hc := hg.1 i (by omega) (by omega)
    have hp := (pitchText_size (rd l i) hc.1 hc.2.1).1
    unfold insUpto
    rw [ByteArray.size_append, space_size]
    omega
theorem inText_tot (l : List Int) (a : Int) (hg : InGood l a) : Tot (fun k => spec_inText.f k l a) (fun r => r = (insUpto l l.length ++ decText a.toNat) ++ (⟨#[10]⟩ : ByteArray)) := by
  have hn := hg.2
  unfold spec_inText.f
  refine trec (σ := Nat) (fun i k => spec_inText.l0 k (insUpto l i) l (l.length : Int) (i : Int) l a) (fun i => l.length - i) (fun i => i ≤ l.length) (fun _ r => r = (insUpto l l.length ++ decText a.toNat) ++ (⟨#[10]⟩ : ByteArray)) ?_ 0 (Nat.zero_le _)
  intro i hi ih
  have hsz := insUpto_size l a hg i hi
  simp only [spec_inText.l0, wrap64_id (x := (i : Int) + 1) (by omega) (by omega)]
  refine tite (fun c => ?_) (fun c => ?_)
  · have hc := hg.1 i (by omega) c
    have hp := (pitchText_size (rd l i) hc.1 hc.2.1).1
    refine tpos (by omega) (tpos c ?_)
    refine tbind (ntName_tot (rd l i) hc.1 hc.2.1) (fun _ e => ?_); subst e
    refine tpos (by omega) (tpos (by rw [space_size]; omega) ?_)
    have h := ih (i + 1) (by omega) (by omega)
    simpa [insUpto] using h
  · obtain rfl : i = l.length := by omega
    obtain ⟨m, rfl⟩ := Int.eq_ofNat_of_zero_le (show 0 ≤ a by omega)
    have hd := (decText_size m (by omega)).1
    refine tbind (l1Num_tot m (by omega)) (fun _ e => ?_); subst e
    exact tpos (by omega) (tpos (by rw [ByteArray.size_append]; omega) (tsome rfl))
theorem instrumentText_tot (l : List Int) (a : Int) (hg : InGood l a) : Tot (fun k => impl_instrumentText.f k l a) (fun r => r = (insUpto l l.length ++ decText a.toNat) ++ (⟨#[10]⟩ : ByteArray)) := by
  have hn := hg.2
  unfold impl_instrumentText.f
  refine trec (σ := Nat) (fun i k => impl_instrumentText.l0 k (insUpto l i) l (l.length : Int) (i : Int) l a) (fun i => l.length - i) (fun i => i ≤ l.length) (fun _ r => r = (insUpto l l.length ++ decText a.toNat) ++ (⟨#[10]⟩ : ByteArray)) ?_ 0 (Nat.zero_le _)
  intro i hi ih
  have hsz := insUpto_size l a hg i hi
  simp only [impl_instrumentText.l0, wrap64_id (x := (i : Int) + 1) (by omega) (by omega)]
  refine tite (fun c => ?_) (fun c => ?_)
  · have hc := hg.1 i (by omega) c
    have hp := (pitchText_size (rd l i) hc.1 hc.2.1).1
    refine tpos (by omega) (tpos c ?_)
    simp only [pitchName_eq (rd l i) hc.1 hc.2.1, Option.bind_some]
    refine tpos (by rw [space_size]; omega) ?_
    have h := ih (i + 1) (by omega) (by omega)
    simpa [insUpto] using h
  · obtain rfl : i = l.length := by omega
    have hd := (decText_size a.toNat (by omega)).1
    have e : itoa.f a = some (decText a.toNat) := by
      unfold itoa.f
      rw [if_pos (by omega), if_pos (by omega)]
      rfl
    simp only [e, Option.bind_some]
    exact tpos (by omega) (tsome rfl)
theorem instrumentText_agree (l : List Int) (a : Int) (hl : l.length ≤ 1048576) : ∃ r, Tot (fun k => spec_InstrumentText.f k l a) (fun y => y = r) ∧ Tot (fun k => impl_InstrumentText.f k l a) (fun y => y = r) := by
  by_cases hg : InGood l a
  · refine ⟨((insUpto l l.length ++ decText a.toNat) ++ (⟨#[10]⟩ : ByteArray), true), ?_, ?_⟩
    · unfold spec_InstrumentText.f
      refine tbind (inGood_tot l a hl) (fun b h => tpos (h.2 hg) ?_)
      exact tbind (inText_tot l a hg) (fun _ e => by subst e; exact tsome rfl)
    · unfold impl_InstrumentText.f
      refine tbind (isInstrument_tot l a hl) (fun b h => tpos (h.2 hg) ?_)
      exact tbind (instrumentText_tot l a hg) (fun _ e => by subst e; exact tsome rfl)
  · refine ⟨(⟨#[]⟩, false), ?_, ?_⟩
    · unfold spec_InstrumentText.f
      exact tbind (inGood_tot l a hl) (fun b h => tneg (fun hb => hg (h.1 hb)) (tsome rfl))
    · unfold impl_InstrumentText.f
      exact tbind (isInstrument_tot l a hl) (fun b h => tneg (fun hb => hg (h.1 hb)) (tsome rfl))


theorem FnExactInstrumentText (l0_0 : List Int) (a0_1 : Int) (hm0_0 : l0_0.length ≤ 9223372036854775807) (hw0_0 : ∀ y ∈ l0_0, Glue.wf64 y) (w0_1 : Glue.wf64 a0_1) : ∃ k, laws_FnExactInstrumentText.f k l0_0 a0_1 = some true := by
  refine rounds ?_
  unfold laws_FnExactInstrumentText.f
  rw [szInstrument l0_0 a0_1 (1048576 : Int) (by omega) (by omega) hm0_0]
  simp only [Option.bind_some]
  by_cases hl0 : (1048576 : Int) < (l0_0.length : Int)
  · simp only [if_pos hl0]; exact tpos (by omega) (tsome rfl)
  simp only [if_neg hl0]
  refine tneg (by omega) ?_
  obtain ⟨r, hS, hI⟩ := instrumentText_agree l0_0 a0_1 (by omega)
  repeat first
    | exact tsome rfl
    | (refine tbind hS (fun _ e => ?_); subst e)
    | (refine tbind hI (fun _ e => ?_); subst e)
    | (refine tbind (toInstrument l0_0 a0_1 (by omega)) (fun _ e => ?_); subst e)
    | (refine tbind (eqInstrument _ _ (by first | omega | (dsimp only; omega) | (simp; omega) | assumption)) (fun _ e => ?_); subst e)
    | refine tpos rfl ?_
    | refine tneg (by dsimp only; omega) ?_
    | refine tneg (by omega) ?_
    | refine tneg (by simp; done) ?_
    | refine tpos (by dsimp only) ?_
    | (refine tstep ?_; simp only [laws_FnExactInstrumentText.j0])
end Go.Proofs.YtjgpngeifgcidaaDoor.Pure
