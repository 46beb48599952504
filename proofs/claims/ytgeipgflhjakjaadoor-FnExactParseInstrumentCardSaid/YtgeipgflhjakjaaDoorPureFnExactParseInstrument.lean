/- The plain side of the law FnExactParseInstrument: lists and numbers alone. -/
import Derived.Test.YtgeipgflhjakjaaDoorPFnExactParseInstrumentx6
import Derived.Test.YtgeipgflhjakjaaDoorGlue
import Derived.Test.YtgeipgflhjakjaaDoorTot
set_option linter.unusedVariables false
set_option linter.unusedSimpArgs false
namespace Go.Proofs.YtgeipgflhjakjaaDoor.Pure
open Go.RowKit Go.Proofs.YtgeipgflhjakjaaDoor.PFnExactParseInstrument Go.Proofs.YtgeipgflhjakjaaDoorW.PrintWords Go.Proofs.YtgeipgflhjakjaaDoorW.PrintMore Go.Proofs.YtgeipgflhjakjaaDoor.Tot

theorem l1In_eq (a b c : Int) : spec_l1In.f a b c = some (decide (b ≤ a ∧ a ≤ c)) := by
  unfold spec_l1In.f
  by_cases h : b ≤ a <;> simp [h]

theorem rd_eq (xs : List Int) (i : Int) : rd xs i = xs.getD i.toNat 0 := rfl

theorem eqIntS (l : List Int) (hl : l.length ≤ 1048576) : Tot (fun k => laws_eqIntS.f k l l) (fun r => r = true) := by
  unfold laws_eqIntS.f
  refine tpos rfl ?_
  refine trec (σ := Int) (fun i k => laws_eqIntS.l0 k l l i) (fun i => ((l.length : Int) - i).toNat) (fun i => 0 ≤ i ∧ i ≤ (l.length : Int)) (fun _ r => r = true) ?_ 0 ⟨Int.le_refl _, by omega⟩
  rintro i ⟨h0, h1⟩ ih
  simp only [laws_eqIntS.l0, if_true]
  refine tite (fun c => ?_) (fun c => tsome rfl)
  refine tpos h0 (tpos (by omega) ?_)
  rw [wrap64_id (by omega) (by omega)]
  exact ih (i + 1) ⟨by omega, by omega⟩ (by (try dsimp only); omega)

def mkInts (j : Int) (n : Nat) : List Int := (List.range n).map fun i : Nat => j + (i : Int)
theorem mkInts_at (j : Int) (n : Nat) (i : Int) (h0 : 0 ≤ i) (h : i < n) : rd (mkInts j n) i = j + i := by
  obtain ⟨m, rfl⟩ := Int.eq_ofNat_of_zero_le h0
  have hm : m < n := by omega
  unfold rd mkInts
  simp [List.getD, hm]
theorem markIntS (l : List Int) (j : Int) (hl : l.length ≤ 1048576) (hj : 0 ≤ j) (hj2 : j ≤ 1125899906842624) : Tot (fun k => laws_markIntS.f k l j) (fun r => r = (j + (l.length : Int), mkInts j l.length)) := by
  unfold laws_markIntS.f
  have key := trec (σ := List Int × Int) (fun s k => laws_markIntS.l0 k s.1 (j + s.2) s.2) (fun s => ((l.length : Int) - s.2).toNat)
    (fun s => 0 ≤ s.2 ∧ s.2 ≤ (l.length : Int) ∧ s.1.length = l.length ∧ ∀ i : Int, 0 ≤ i → i < s.2 → rd s.1 i = rd (mkInts j l.length) i) (fun _ r => r = (j + (l.length : Int), mkInts j l.length)) ?_
  · have h := key (l, 0) ⟨Int.le_refl _, by dsimp only; omega, rfl, fun i h0 h1 => by dsimp only at h1; omega⟩
    simpa using h
  · rintro ⟨ys, i⟩ ⟨h0, h1, h2, h3⟩ ih
    dsimp only at h0 h1 h2 h3
    simp only [laws_markIntS.l0, Option.bind_some]
    refine tite (fun c => ?_) (fun c => ?_)
    · refine tpos h0 ?_
      rw [wrap64_id (x := j + i + 1) (by omega) (by omega), wrap64_id (x := i + 1) (by omega) (by omega), show j + i + 1 = j + (i + 1) by omega]
      refine ih (_, i + 1) ⟨by dsimp only; omega, by dsimp only; omega, by simp [h2], ?_⟩ (by dsimp only; omega)
      intro p p0 p1
      dsimp only at p1 ⊢
      by_cases ep : p = i
      · subst ep
        rw [mkInts_at j _ p p0 (by omega)]
        unfold rd; exact ld_set_self _ p (by omega) p0
      · unfold rd
        rw [ld_set_ne _ _ _ h0 p0 (by omega)]
        exact h3 p p0 (by omega)
    · obtain rfl : i = (l.length : Int) := by omega
      refine tsome ?_
      congr 1
      refine ld_ext (z := 0) (by simp [mkInts, h2]) (fun p p0 p1 => ?_)
      exact h3 p p0 (by omega)
theorem heldIntS (j : Int) (n : Nat) (hn : n ≤ 1048576) (hj : 0 ≤ j) (hj2 : j ≤ 1125899906842624) : Tot (fun k => laws_heldIntS.f k (mkInts j n) j) (fun r => r = j + (n : Int)) := by
  unfold laws_heldIntS.f
  have hlen : ((mkInts j n).length : Int) = n := by simp [mkInts]
  have key := trec (σ := Int) (fun i k => laws_heldIntS.l0 k (mkInts j n) (j + i) i) (fun i => ((n : Int) - i).toNat) (fun i => 0 ≤ i ∧ i ≤ (n : Int)) (fun _ r => r = j + (n : Int)) ?_ 0 ⟨Int.le_refl _, by omega⟩
  · simpa using key
  · rintro i ⟨h0, h1⟩ ih
    simp only [laws_heldIntS.l0, hlen]
    refine tite (fun c => ?_) (fun c => ?_)
    · refine tpos h0 ?_
      simp only [mkInts_at j n i h0 c]
      refine tpos (by first | trivial | rfl) ?_
      rw [wrap64_id (x := j + i + 1) (by omega) (by omega), wrap64_id (x := i + 1) (by omega) (by omega), show j + i + 1 = j + (i + 1) by omega]
      exact ih (i + 1) ⟨by omega, by omega⟩ (by (try dsimp only); omega)
    · exact tsome (by omega)

theorem isPitch_eq (a : Int) : impl_isPitch.f a = some (decide (24 ≤ a ∧ a ≤ 96)) := by
  unfold impl_isPitch.f
  by_cases h : 24 ≤ a <;> simp [h]
def InC (l : List Int) (j : Int) : Prop := 24 ≤ rd l j ∧ rd l j ≤ 96 ∧ (0 < j → rd l (j - 1) < rd l j)
def InGood (l : List Int) (a : Int) : Prop := (∀ j : Int, 0 ≤ j → j < (l.length : Int) → InC l j) ∧ (1 ≤ (l.length : Int) ∧ (l.length : Int) ≤ 20 ∧ 1 ≤ a ∧ a ≤ 20)
theorem l1Rising_tot (l : List Int) (hl : l.length ≤ 1048576) : Tot (fun k => spec_l1Rising.f k l 24 96) (fun b => (b = true) ↔ ((∀ j : Int, 0 ≤ j → j < (l.length : Int) → InC l j) ∧ True)) := by
  unfold spec_l1Rising.f
  refine trec (σ := Int) (fun i k => spec_l1Rising.l0 k l 24 96 l (l.length : Int) i) (fun i => ((l.length : Int) - i).toNat) (fun i => 0 ≤ i ∧ i ≤ (l.length : Int))
    (fun i b => (b = true) ↔ ((∀ j : Int, i ≤ j → j < (l.length : Int) → InC l j) ∧ True)) ?_ 0 ⟨Int.le_refl _, by omega⟩
  rintro i ⟨h0, h1⟩ ih
  simp only [spec_l1Rising.l0, l1In_eq, Option.bind_some, decide_eq_true_eq]
  simp only [show wrap64 (i + 1) = i + 1 from wrap64_id (by omega) (by omega), show wrap64 (i - 1) = i - 1 from wrap64_id (by omega) (by omega)]
  repeat' (refine tite (fun _ => ?_) (fun _ => ?_))
  all_goals first
    | (exfalso; omega)
    | exact tsome (all_no (by omega) (by unfold InC; omega))
    | exact tmono (ih (i + 1) ⟨by omega, by omega⟩ (by (try dsimp only); omega)) (fun b hb => all_go (by omega) (by unfold InC; omega) hb)
    | exact tsome (all_end (by omega) (by simp))
theorem inGood_tot (l : List Int) (a : Int) (hl : l.length ≤ 1048576) : Tot (fun k => spec_inGood.f k l a) (fun b => (b = true) ↔ InGood l a) := by
  unfold spec_inGood.f
  simp only [l1In_eq, Option.bind_some, decide_eq_true_eq]
  refine tite (fun c => ?_) (fun c => tsome ⟨(fun h => by simp at h), (fun h => by have := h.2; omega)⟩)
  refine tbind (l1Rising_tot l hl) (fun b hb => ?_)
  refine tite (fun c2 => ?_) (fun c2 => tsome ⟨(fun h => by simp at h), (fun h => absurd (hb.2 ⟨h.1, trivial⟩) c2)⟩)
  refine tsome ?_
  have := (hb.1 c2).1
  unfold InGood
  simp only [decide_eq_true_eq]
  exact ⟨fun h => ⟨this, by omega⟩, fun h => by omega⟩
theorem isInstrument_tot (l : List Int) (a : Int) (hl : l.length ≤ 1048576) : Tot (fun k => impl_IsInstrument.f k l a) (fun b => (b = true) ↔ InGood l a) := by
  have key : 1 ≤ (l.length : Int) → (l.length : Int) ≤ 20 → 1 ≤ a → a ≤ 20 → Tot (fun k => impl_IsInstrument.l0 k l (l.length : Int) 0 l a) (fun b => (b = true) ↔ InGood l a) := by
    intro g1 g2 g3 g4
    refine tmono (trec (σ := Int) (fun i k => impl_IsInstrument.l0 k l (l.length : Int) i l a) (fun i => ((l.length : Int) - i).toNat) (fun i => 0 ≤ i ∧ i ≤ (l.length : Int))
      (fun i b => (b = true) ↔ ((∀ j : Int, i ≤ j → j < (l.length : Int) → InC l j) ∧ True)) ?_ 0 ⟨Int.le_refl _, by omega⟩) (fun b hb => ?_)
    · rintro i ⟨h0, h1⟩ ih
      simp only [impl_IsInstrument.l0, isPitch_eq, Option.bind_some, decide_eq_true_eq]
      simp only [show wrap64 (i + 1) = i + 1 from wrap64_id (by omega) (by omega), show wrap64 (i - 1) = i - 1 from wrap64_id (by omega) (by omega)]
      repeat' (refine tite (fun _ => ?_) (fun _ => ?_))
      all_goals first
        | (exfalso; omega)
        | exact tsome (all_no (by omega) (by unfold InC; omega))
        | exact tmono (ih (i + 1) ⟨by omega, by omega⟩ (by (try dsimp only); omega)) (fun b hb => all_go (by omega) (by unfold InC; omega) hb)
        | exact tsome (all_end (by omega) (by simp))
    · rw [hb]; unfold InGood
      exact ⟨fun h => ⟨h.1, g1, g2, g3, g4⟩, fun h => ⟨h.1, trivial⟩⟩
  have no : ¬ InGood l a → Tot (fun k => impl_IsInstrument.j0 k true l a) (fun b => (b = true) ↔ InGood l a) := by
    intro hn
    refine tstep ?_
    simp only [impl_IsInstrument.j0, if_true]
    exact tsome ⟨(fun h => by simp at h), (fun h => absurd h hn)⟩
  unfold impl_IsInstrument.f
  refine tite (fun c => no (fun h => by have := h.2; omega)) (fun c1 => ?_)
  refine tite (fun c => no (fun h => by have := h.2; omega)) (fun c2 => ?_)
  refine tite (fun c => no (fun h => by have := h.2; omega)) (fun c3 => ?_)
  by_cases h : a > 20
  · rw [decide_eq_true h]
    exact no (fun h => by have := h.2; omega)
  · rw [decide_eq_false h]
    refine tstep ?_
    simp only [impl_IsInstrument.j0]
    exact tneg (by simp) (key (by omega) (by omega) (by omega) (by omega))

theorem markInstrument (l : List Int) (a j : Int) (hl : l.length ≤ 1048576) (hj : 0 ≤ j) (hj2 : j ≤ 1125899906842624) : Tot (fun k => laws_markInstrument.f k l a j) (fun r => r = (j + (l.length : Int), mkInts j l.length)) := by
  unfold laws_markInstrument.f
  refine tbind (markIntS l j hl hj hj2) (fun _ e => ?_); subst e
  exact tsome rfl

def inpl {α : Type} (f : α → α) (l : List α) (i : Nat) : List α := (l.take i).map f ++ l.drop i
theorem inpl_len {α : Type} (f : α → α) (l : List α) (i : Nat) (h : i ≤ l.length) : (inpl f l i).length = l.length := by
  unfold inpl; simp; omega
theorem inpl_zero {α : Type} (f : α → α) (l : List α) : inpl f l 0 = l := by simp [inpl]
theorem inpl_end {α : Type} (f : α → α) (l : List α) : inpl f l l.length = l.map f := by simp [inpl]
theorem inpl_at {α : Type} (z : α) (f : α → α) (l : List α) (i : Nat) (h : i < l.length) : (inpl f l i).getD i z = l.getD i z := by
  unfold inpl
  have h1 : ((l.take i).map f).length = i := by simp; omega
  rw [List.getD, List.getElem?_append_right (by omega), h1, Nat.sub_self]
  simp [List.getD, h]
theorem inpl_set {α : Type} (z : α) (f : α → α) (l : List α) (i : Nat) (h : i < l.length) : (inpl f l i).set i (f (l.getD i z)) = inpl f l (i + 1) := by
  unfold inpl
  have h1 : ((l.take i).map f).length = i := by simp; omega
  rw [List.set_append_right _ _ (by omega), h1, Nat.sub_self, List.drop_eq_getElem_cons h, List.set_cons_zero, List.take_succ_eq_append_getElem h, List.map_append, List.append_assoc]
  simp [List.getD, h]
theorem take_up {α β : Type} (z : α) (f : α → β) (l : List α) (i : Nat) (h : i < l.length) : (l.take (i + 1)).map f = (l.take i).map f ++ [f (l.getD i z)] := by
  rw [List.take_succ_eq_append_getElem h, List.map_append]
  simp [List.getD, h]

theorem tlet {α β : Type} {v : α} {g : Nat → α → Option β} {Q : β → Prop} (h : Tot (fun k => g k v) Q) : Tot (fun k => (some v).bind fun y => g k y) Q := h
theorem take_drop_erase {α : Type} (l : List α) (m : Nat) : l.take m ++ l.drop (m + 1) = l.eraseIdx m := (List.eraseIdx_eq_take_drop_succ l m).symm
theorem wrapN1 (m : Nat) (h : m ≤ 1048576) : wrap64 ((m : Int) + 1) = ((m + 1 : Nat) : Int) := by rw [wrap64_id (by omega) (by omega)]; rfl
theorem erase_len {α : Type} (l : List α) (m : Nat) (h : l.length ≤ 1048576) : (l.eraseIdx m).length ≤ 1048576 := Nat.le_trans (List.length_eraseIdx_le l m) h

theorem heldInstrument (j : Int) (n : Nat) (a : Int) (hn : n ≤ 1048576) (hj : 0 ≤ j) (hj2 : j ≤ 1125899906842624) : Tot (fun k => laws_heldInstrument.f k (mkInts j n) a j) (fun r => r = j + (n : Int)) := by
  unfold laws_heldInstrument.f
  refine tbind (heldIntS j n hn hj hj2) (fun _ e => ?_); subst e
  exact tneg (by omega) (tsome rfl)

theorem tmonoEv {α : Type} {g : Nat → Option α} {r : α} (hg : ∀ k, LeO (g k) (g (k + 1))) {k : Nat} (h : g k = some r) : Tot g (fun y => y = r) := ⟨r, Ev.of hg h, rfl⟩
def decText (n : Nat) : ByteArray := ⟨(Lib.decDigits n).toArray⟩
theorem decText_small (u : Nat) (h : u < 10) : decText u = strOfNums ([(wrap64 (48 + (u : Int))) % 256] : List Int) := by
  unfold decText Lib.decDigits strOfNums
  rw [dif_pos h]
  have e : (wrap64 (48 + (u : Int))) % 256 = ((48 + u : Nat) : Int) := by unfold wrap64; omega
  rw [e]
  rfl
theorem decText_big (u : Nat) (h : ¬ u < 10) (h2 : u < 1000000000) : decText u = decText (u / 10) ++ strOfNums ([(wrap64 (48 + ((u % 10 : Nat) : Int))) % 256] : List Int) := by
  have e : (wrap64 (48 + ((u % 10 : Nat) : Int))) % 256 = ((48 + u % 10 : Nat) : Int) := by unfold wrap64; omega
  rw [e]
  have e1 : Lib.decDigits u = Lib.decDigits (u / 10) ++ [UInt8.ofNat (48 + u % 10)] := by
    conv => lhs; unfold Lib.decDigits
    rw [dif_neg h]
  unfold decText strOfNums
  rw [e1]
  apply ByteArray.ext
  simp
  rw [show (48 + (u : Int) % 10).toNat = 48 + u % 10 by omega, UInt8.ofNat_add]
  rfl
theorem decText_size (u : Nat) (h : u < 1000000000) : (decText u).size ≤ 9 ∧ 1 ≤ (decText u).size := by
  have key : ∀ (d u : Nat), u < 10 ^ (d + 1) → d ≤ 8 → (decText u).size ≤ d + 1 ∧ 1 ≤ (decText u).size := by
    intro d
    induction d with
    | zero => intro u hu _; rw [decText_small u (by omega)]; exact ⟨Nat.le_refl _, Nat.le_refl _⟩
    | succ d ih =>
      intro u hu hd
      by_cases h10 : u < 10
      · rw [decText_small u h10]
        exact ⟨by show 1 ≤ _; omega, Nat.le_refl _⟩
      · have hlt : u < 1000000000 := Nat.lt_of_lt_of_le hu (Nat.pow_le_pow_right (by omega) (show d + 1 + 1 ≤ 9 by omega))
        rw [decText_big u h10 hlt, ByteArray.size_append]
        have h1 := ih (u / 10) (by rw [Nat.pow_succ] at hu; omega) (by omega)
        have h2 : (strOfNums ([(wrap64 (48 + ((u % 10 : Nat) : Int))) % 256] : List Int)).size = 1 := rfl
        omega
  exact key 8 u (by omega) (by omega)
theorem l1Num_tot (u : Nat) (h : u < 1000000000) : Tot (fun k => spec_l1Num.f k (u : Int)) (fun r => r = decText u) := by
  induction u using Nat.strongRecOn with
  | ind u ih =>
    refine tstep ?_
    simp only [spec_l1Num.f]
    refine tite (fun c => tsome (decText_small u (by omega)).symm) (fun c => ?_)
    have e1 : wrap64 (Int.tdiv (u : Int) 10) = ((u / 10 : Nat) : Int) := by
      rw [Int.tdiv_eq_ediv_of_nonneg (by omega)]; unfold wrap64; omega
    have e2 : Int.tmod (u : Int) 10 = ((u % 10 : Nat) : Int) := by rw [Int.tmod_eq_emod_of_nonneg (by omega)]; omega
    rw [e1, e2]
    refine tbind (ih (u / 10) (by omega) (by omega)) (fun _ e => ?_); subst e
    show Tot (fun _ => if (decText (u / 10)).size + (strOfNums ([(wrap64 (48 + ((u % 10 : Nat) : Int))) % 256] : List Int)).size ≤ 9223372036854775807 then some (decText (u / 10) ++ strOfNums ([(wrap64 (48 + ((u % 10 : Nat) : Int))) % 256] : List Int)) else none) _
    have hs := (decText_size (u / 10) (by omega)).1
    have h2 : (strOfNums ([(wrap64 (48 + ((u % 10 : Nat) : Int))) % 256] : List Int)).size = 1 := rfl
    exact tpos (by omega) (tsome (decText_big u (by omega) h).symm)

def noteNames : List ByteArray := [(⟨#[99]⟩ : ByteArray), (⟨#[99, 35]⟩ : ByteArray), (⟨#[100]⟩ : ByteArray), (⟨#[100, 35]⟩ : ByteArray), (⟨#[101]⟩ : ByteArray), (⟨#[102]⟩ : ByteArray), (⟨#[102, 35]⟩ : ByteArray), (⟨#[103]⟩ : ByteArray), (⟨#[103, 35]⟩ : ByteArray), (⟨#[97]⟩ : ByteArray), (⟨#[97, 35]⟩ : ByteArray), (⟨#[98]⟩ : ByteArray)]
def pitchText (a : Int) : ByteArray := rdOf ByteArray.empty noteNames (a % 12) ++ decText (a / 12).toNat
theorem noteName_size (i : Int) (h0 : 0 ≤ i) (h1 : i < 12) : (rdOf ByteArray.empty noteNames i).size ≤ 2 ∧ 1 ≤ (rdOf ByteArray.empty noteNames i).size := by
  obtain rfl | rfl | rfl | rfl | rfl | rfl | rfl | rfl | rfl | rfl | rfl | rfl : i = 0 ∨ i = 1 ∨ i = 2 ∨ i = 3 ∨ i = 4 ∨ i = 5 ∨ i = 6 ∨ i = 7 ∨ i = 8 ∨ i = 9 ∨ i = 10 ∨ i = 11 := by omega
  all_goals decide
theorem pitchText_size (a : Int) (h0 : 24 ≤ a) (h1 : a ≤ 96) : (pitchText a).size ≤ 11 ∧ 1 ≤ (pitchText a).size := by
  unfold pitchText
  rw [ByteArray.size_append]
  have h := noteName_size (a % 12) (by omega) (by omega)
  have h2 := decText_size (a / 12).toNat (by omega)
  omega
theorem ntName_tot (a : Int) (h0 : 24 ≤ a) (h1 : a ≤ 96) : Tot (fun k => spec_ntName.f k a) (fun r => r = pitchText a) := by
  have e1 : wrap64 (Int.tdiv a 12) = (((a / 12).toNat : Nat) : Int) := by rw [Int.tdiv_eq_ediv_of_nonneg (by omega)]; unfold wrap64; omega
  have e2 : Int.tmod a 12 = a % 12 := Int.tmod_eq_emod_of_nonneg (by omega)
  unfold spec_ntName.f spec_ntNames.f
  simp only [e1, e2, Option.bind_some]
  refine tpos (by omega) (tpos (by simp; omega) ?_)
  refine tbind (l1Num_tot (a / 12).toNat (by omega)) (fun _ e => ?_); subst e
  have h := noteName_size (a % 12) (by omega) (by omega)
  have h2 := decText_size (a / 12).toNat (by omega)
  exact tpos (by unfold noteNames at h; omega) (tsome rfl)
theorem pitchName_eq (a : Int) (h0 : 24 ≤ a) (h1 : a ≤ 96) : impl_pitchName.f a = some (pitchText a) := by
  have e1 : wrap64 (Int.tdiv a 12) = (((a / 12).toNat : Nat) : Int) := by rw [Int.tdiv_eq_ediv_of_nonneg (by omega)]; unfold wrap64; omega
  have e2 : Int.tmod a 12 = a % 12 := Int.tmod_eq_emod_of_nonneg (by omega)
  unfold impl_pitchName.f itoa.f
  simp only [e1, e2, Option.bind_some]
  have h := noteName_size (a % 12) (by omega) (by omega)
  have h2 := decText_size (a / 12).toNat (by omega)
  unfold noteNames at h
  unfold decText at h2
  rw [if_pos (by omega), if_pos (by simp; omega), if_pos (by omega), if_pos (by omega)]
  simp only [Option.bind_some, Int.toNat_natCast]
  rw [if_pos (by omega)]
  rfl

def insUpto (l : List Int) : Nat → ByteArray
  | 0 => ⟨#[]⟩
  | i + 1 => insUpto l i ++ (pitchText (rd l i) ++ (⟨#[32]⟩ : ByteArray))
theorem space_size (x : ByteArray) : (x ++ (⟨#[32]⟩ : ByteArray)).size = x.size + 1 := by rw [ByteArray.size_append]; rfl
theorem insUpto_size (l : List Int) (a : Int) (hg : InGood l a) (i : Nat) (hi : i ≤ l.length) : (insUpto l i).size ≤ 12 * i := by
  induction i with
  | zero => exact Nat.le_refl _
  | succ i ih =>
    have := ih (by omega)
    have hc := hg.1 i (by omega) (by omega)
    have hp := (pitchText_size (rd l i) hc.1 hc.2.1).1
    unfold insUpto
    rw [ByteArray.size_append, space_size]
    omega
theorem inText_tot (l : List Int) (a : Int) (hg : InGood l a) : Tot (fun k => spec_inText.f k l a) (fun r => r = (insUpto l l.length ++ decText a.toNat) ++ (⟨#[10]⟩ : ByteArray)) := by
  have hn := hg.2
  unfold spec_inText.f
  refine trec (σ := Nat) (fun i k => spec_inText.l0 k (insUpto l i) l (l.length : Int) (i : Int) l a) (fun i => l.length - i) (fun i => i ≤ l.length) (fun _ r => r = (insUpto l l.length ++ decText a.toNat) ++ (⟨#[10]⟩ : ByteArray)) ?_ 0 (Nat.zero_le _)
  intro i hi ih
  have hsz := insUpto_size l a hg i hi
  simp only [spec_inText.l0, wrap64_id (x := (i : Int) + 1) (by omega) (by omega)]
  refine tite (fun c => ?_) (fun c => ?_)
  · have hc := hg.1 i (by omega) c
    have hp := (pitchText_size (rd l i) hc.1 hc.2.1).1
    refine tpos (by omega) (tpos c ?_)
    refine tbind (ntName_tot (rd l i) hc.1 hc.2.1) (fun _ e => ?_); subst e
    refine tpos (by omega) (tpos (by rw [space_size]; omega) ?_)
    have h := ih (i + 1) (by omega) (by omega)
    simpa [insUpto] using h
  · obtain rfl : i = l.length := by omega
    obtain ⟨m, rfl⟩ := Int.eq_ofNat_of_zero_le (show 0 ≤ a by omega)
    have hd := (decText_size m (by omega)).1
    refine tbind (l1Num_tot m (by omega)) (fun _ e => ?_); subst e
    exact tpos (by omega) (tpos (by rw [ByteArray.size_append]; omega) (tsome rfl))

theorem join_snoc (xs : List (List UInt8)) (y sep : List UInt8) (h : xs ≠ []) : Lib.join (xs ++ [y]) sep = Lib.join xs sep ++ (sep ++ y) := by
  cases xs with
  | nil => exact absurd rfl h
  | cons x r =>
    rw [List.cons_append, Lib.join_cons, Lib.join_cons, List.append_assoc]
    congr 1
    simp [Lib.joinTail]

def sp (c : UInt8) : List UInt8 → List (List UInt8)
  | [] => [[]]
  | b :: l => if b = c then [] :: sp c l else (b :: (sp c l).headD []) :: (sp c l).tail
theorem sp_ne (c : UInt8) (l : List UInt8) : sp c l ≠ [] := by
  cases l with
  | nil => simp [sp]
  | cons b l => unfold sp; split <;> simp
theorem sp_cons (c : UInt8) (l : List UInt8) : ∃ x r, sp c l = x :: r := by
  cases h : sp c l with
  | nil => exact absurd h (sp_ne c l)
  | cons x r => exact ⟨x, r, rfl⟩
theorem sp_join (c : UInt8) (l : List UInt8) : Lib.join (sp c l) [c] = l := by
  induction l with
  | nil => rfl
  | cons b l ih =>
    obtain ⟨x, r, e⟩ := sp_cons c l
    rw [e, Lib.join_cons] at ih
    unfold sp
    by_cases h : b = c
    · subst h
      rw [if_pos rfl, e, Lib.join_cons]
      simp only [Lib.joinTail, List.map_cons, List.flatten_cons, List.nil_append, List.cons_append] at ih ⊢
      rw [ih]
    · rw [if_neg h, e, Lib.join_cons]
      simp only [List.headD_cons, List.tail_cons, List.cons_append]
      rw [ih]
theorem sp_none (c : UInt8) (x : List UInt8) (h : c ∉ x) : sp c x = [x] := by
  induction x with
  | nil => rfl
  | cons b l ih =>
    have hb : b ≠ c := fun e => h (by simp [e])
    unfold sp
    rw [if_neg hb, ih (fun e => h (by simp [e]))]
    rfl
theorem sp_hit (c : UInt8) (x l : List UInt8) (h : c ∉ x) : sp c (x ++ c :: l) = x :: sp c l := by
  induction x with
  | nil => simp [sp]
  | cons b x ih =>
    have hb : b ≠ c := fun e => h (by simp [e])
    rw [List.cons_append]
    have ih' := ih (fun e => h (by simp [e]))
    conv => lhs; unfold sp
    rw [if_neg hb, ih']
    rfl
theorem sp_of_join (c : UInt8) (ws : List (List UInt8)) (h0 : ws ≠ []) (h : ∀ w ∈ ws, c ∉ w) : sp c (Lib.join ws [c]) = ws := by
  induction ws with
  | nil => exact absurd rfl h0
  | cons x r ih =>
    rw [Lib.join_cons]
    cases r with
    | nil => simp only [Lib.joinTail, List.map_nil, List.flatten_nil, List.append_nil]; exact sp_none c x (h x (by simp))
    | cons y r =>
      have := ih (by simp) (fun w hw => h w (List.mem_cons_of_mem _ hw))
      rw [Lib.join_cons] at this
      simp only [Lib.joinTail, List.map_cons, List.flatten_cons, List.append_assoc, List.nil_append, List.cons_append] at this ⊢
      rw [sp_hit c x _ (h x (by simp)), this]
theorem mem_sp (c : UInt8) (l : List UInt8) : ∀ w ∈ sp c l, c ∉ w := by
  induction l with
  | nil => simp [sp]
  | cons b l ih =>
    obtain ⟨x, r, e⟩ := sp_cons c l
    unfold sp
    rw [e] at ih ⊢
    by_cases h : b = c
    · rw [if_pos h]
      intro w hw
      rcases List.mem_cons.1 hw with rfl | hw
      · simp
      · exact ih w hw
    · rw [if_neg h]
      intro w hw
      simp only [List.headD_cons, List.tail_cons] at hw
      rcases List.mem_cons.1 hw with rfl | hw
      · intro hc
        rcases List.mem_cons.1 hc with e | hc
        · exact h e.symm
        · exact ih x (by simp) hc
      · exact ih w (List.mem_cons_of_mem _ hw)
theorem sp_len (c : UInt8) (l : List UInt8) : (sp c l).length ≤ l.length + 1 := by
  induction l with
  | nil => simp [sp]
  | cons b l ih =>
    obtain ⟨x, r, e⟩ := sp_cons c l
    unfold sp
    rw [e] at ih ⊢
    split <;> simp at ih ⊢ <;> omega
theorem find_c (c : UInt8) (l : List UInt8) : c ∉ l ∨ ∃ x r, c ∉ x ∧ l = x ++ c :: r := by
  induction l with
  | nil => exact .inl (by simp)
  | cons b l ih =>
    by_cases h : b = c
    · subst h; exact .inr ⟨[], l, by simp, rfl⟩
    · rcases ih with ih | ⟨x, r, h1, rfl⟩
      · exact .inl (fun hc => (List.mem_cons.1 hc).elim (fun e => h e.symm) ih)
      · exact .inr ⟨b :: x, r, fun hc => (List.mem_cons.1 hc).elim (fun e => h e.symm) h1, rfl⟩
theorem index_none1 (c : UInt8) (l : List UInt8) (h : c ∉ l) : Lib.index l [c] = -1 := by
  induction l with
  | nil => rfl
  | cons b l ih =>
    have hb : b ≠ c := fun e => h (by simp [e])
    have hp : ([c] : List UInt8).isPrefixOf (b :: l) = false := by simp [List.isPrefixOf, Ne.symm hb]
    rw [Lib.index, hp, ih (fun e => h (by simp [e]))]
    rfl
theorem index_hit1 (c : UInt8) (x r : List UInt8) (h : c ∉ x) : Lib.index (x ++ c :: r) [c] = x.length := by
  induction x with
  | nil => simp [Lib.index, List.isPrefixOf]
  | cons b x ih =>
    have hb : b ≠ c := fun e => h (by simp [e])
    have hp : ([c] : List UInt8).isPrefixOf (b :: (x ++ c :: r)) = false := by simp [List.isPrefixOf, Ne.symm hb]
    rw [List.cons_append, Lib.index, hp, ih (fun e => h (by simp [e]))]
    simp
theorem splitK_sp (c : UInt8) : ∀ (n : Nat) (l : List UInt8), l.length ≤ n → Lib.splitK [c] 0 (l.count c) l = sp c l
  | n, l, hn => by
    rcases find_c c l with h | ⟨x, r, h, rfl⟩
    · rw [List.count_eq_zero.2 h, sp_none c l h]; rfl
    · have hc : (x ++ c :: r).count c = r.count c + 1 := by rw [List.count_append, List.count_eq_zero.2 h, List.count_cons_self, Nat.zero_add]
      cases n with
      | zero => simp at hn
      | succ n =>
        have hr : r.length ≤ n := by simp at hn; omega
        rw [hc, Lib.splitK, index_hit1 c x r h, sp_hit c x r h, ← splitK_sp c n r hr]
        rw [if_neg (by simp)]
        simp
theorem splitB_sp (c : UInt8) (s : ByteArray) : (Lib.splitB ⟨#[c]⟩ 0 (Lib.countB s ⟨#[c]⟩) s).map (·.data.toList) = sp c s.data.toList := by
  rw [Lib.splitB_data]
  show Lib.splitK [c] 0 (Lib.count s.data.toList [c]) s.data.toList = _
  rw [Lib.count_one, splitK_sp c _ _ (Nat.le_refl _)]

theorem ex_data (s : ByteArray) (a b : Nat) : (s.extract a b).data.toList = (s.data.toList.drop a).take (b - a) := by
  rw [ByteArray.data_extract, Array.toList_extract, List.extract_eq_take_drop]
theorem bs_len (s : ByteArray) : s.data.toList.length = s.size := by rw [Array.length_toList]; rfl
theorem bs_ext {s t : ByteArray} (h : s.data.toList = t.data.toList) : s = t := by
  cases s; cases t; simp only [ByteArray.mk.injEq]; exact Array.toList_inj.1 h
theorem bt_eq (s : ByteArray) (i : Nat) (h : i < s.size) : bt s (i : Int) = ((s.data.toList.getD i 0).toNat : Int) := by
  have hl : i < s.data.toList.length := by rw [bs_len]; exact h
  unfold bt
  rw [dif_pos (by simpa using h), List.getD_eq_getElem?_getD, List.getElem?_eq_getElem hl]
  rfl
theorem drop_at (l : List UInt8) (i : Nat) (h : i < l.length) : l.drop i = l.getD i 0 :: l.drop (i + 1) := by
  rw [List.getD_eq_getElem?_getD, List.getElem?_eq_getElem h, List.drop_eq_getElem_cons h]
  rfl
theorem take_at (l : List UInt8) (i : Nat) (h : i < l.length) : l.take (i + 1) = l.take i ++ [l.getD i 0] := by
  rw [List.getD_eq_getElem?_getD, List.getElem?_eq_getElem h, List.take_add_one, List.getElem?_eq_getElem h]
  rfl
theorem l1Split_tot (s : ByteArray) (c : UInt8) (hs : s.size ≤ 1048576) : Tot (fun k => spec_l1Split.f k s (c.toNat : Int)) (fun r => r.map (·.data.toList) = sp c s.data.toList) := by
  unfold spec_l1Split.f
  have hlen := bs_len s
  refine trec (σ := List ByteArray × Nat × Nat) (fun q k => spec_l1Split.l0 k s (c.toNat : Int) q.1 (q.2.1 : Int) (q.2.2 : Int)) (fun q => s.size - q.2.2)
    (fun q => q.2.1 ≤ q.2.2 ∧ q.2.2 ≤ s.size ∧ q.1.length ≤ q.2.1 ∧ c ∉ (s.data.toList.drop q.2.1).take (q.2.2 - q.2.1) ∧ q.1.map (·.data.toList) ++ sp c (s.data.toList.drop q.2.1) = sp c s.data.toList)
    (fun _ r => r.map (·.data.toList) = sp c s.data.toList) ?_ ([], 0, 0) ⟨Nat.le_refl _, Nat.zero_le _, Nat.le_refl _, by simp, by simp⟩
  rintro ⟨acc, st, i⟩ ⟨h1, h2, h3, h4, h5⟩ ih
  dsimp only at h1 h2 h3 h4 h5 ⊢
  simp only [spec_l1Split.l0]
  refine tite (fun cc => ?_) (fun cc => ?_)
  · refine tpos (by omega) ?_
    have hi : i < s.size := by omega
    rw [bt_eq s i hi]
    have hw : s.data.toList.drop st = (s.data.toList.drop st).take (i - st) ++ s.data.toList.getD i 0 :: s.data.toList.drop (i + 1) := by
      conv => lhs; rw [← List.take_append_drop (i - st) (s.data.toList.drop st)]
      rw [List.drop_drop, show st + (i - st) = i by omega, drop_at _ i (by omega)]
    refine tite (fun c2 => ?_) (fun c2 => ?_)
    · have hc : s.data.toList.getD i 0 = c := UInt8.toNat_inj.1 (by omega)
      refine tpos (by omega) (tpos (by omega) (tpos (by omega) (tpos (by omega) ?_)))
      rw [wrap64_id (by omega) (by omega)]
      have := ih (acc ++ [s.extract st i], i + 1, i + 1) ⟨Nat.le_refl _, by dsimp only; omega, by simp; omega, by simp, ?_⟩ (by dsimp only; omega)
      · simpa using this
      · rw [List.map_append, List.map_cons, List.map_nil, ex_data, ← h5]
        conv => rhs; rw [hw, hc, sp_hit c _ _ h4]
        simp
    · rw [wrap64_id (by omega) (by omega)]
      have hc : s.data.toList.getD i 0 ≠ c := fun e => c2 (by rw [e])
      have := ih (acc, st, i + 1) ⟨by dsimp only; omega, by dsimp only; omega, h3, ?_, h5⟩ (by dsimp only; omega)
      · simpa using this
      · dsimp only
        rw [show i + 1 - st = (i - st) + 1 by omega, take_at _ (i - st) (by rw [List.length_drop]; omega)]
        intro hm
        rcases List.mem_append.1 hm with hm | hm
        · exact h4 hm
        · simp only [List.mem_singleton] at hm
          apply hc
          rw [hm, List.getD_eq_getElem?_getD, List.getD_eq_getElem?_getD, List.getElem?_drop, show st + (i - st) = i by omega]
  · obtain rfl : i = s.size := by omega
    refine tpos (by omega) (tpos (by omega) (tpos (by omega) (tsome ?_)))
    rw [List.map_append, List.map_cons, List.map_nil, ← h5]
    have e : (s.extract st s.size).data.toList = s.data.toList.drop st := by
      rw [ex_data, List.take_of_length_le (by rw [List.length_drop]; omega)]
    have h4' : c ∉ s.data.toList.drop st := by rwa [List.take_of_length_le (by rw [List.length_drop]; omega)] at h4
    simp only [Int.toNat_natCast]
    rw [e, sp_none c _ h4']
theorem split_eq (s : ByteArray) (c : UInt8) (hs : s.size ≤ 1048576) : ∃ r, strings_Split.f s ⟨#[c]⟩ = some r ∧ r.map (·.data.toList) = sp c s.data.toList := by
  refine ⟨Lib.splitB ⟨#[c]⟩ 0 (Lib.countB s ⟨#[c]⟩) s, ?_, splitB_sp c s⟩
  unfold strings_Split.f
  rw [if_pos (show 1 ≤ (⟨#[c]⟩ : ByteArray).size from Nat.le_refl 1), if_pos (by omega)]
theorem snoc_ind {motive : List UInt8 → Prop} (nil : motive []) (append_singleton : ∀ (l : List UInt8) (b : UInt8), motive l → motive (l ++ [b])) (l : List UInt8) : motive l := by
  have key : ∀ l : List UInt8, motive l.reverse := by
    intro l
    induction l with
    | nil => exact nil
    | cons b l ih => rw [List.reverse_cons]; exact append_singleton _ _ ih
  have := key l.reverse
  rwa [List.reverse_reverse] at this
def dval (l : List UInt8) : Nat := l.foldl (fun a b => 10 * a + (b.toNat - 48)) 0
def Dig (b : UInt8) : Prop := 48 ≤ b.toNat ∧ b.toNat ≤ 57
def Can (l : List UInt8) : Prop := l ≠ [] ∧ (∀ b ∈ l, Dig b) ∧ (l.getD 0 0 ≠ 48 ∨ l.length = 1)
theorem dval_snoc (l : List UInt8) (b : UInt8) : dval (l ++ [b]) = 10 * dval l + (b.toNat - 48) := by simp [dval, List.foldl_append]
theorem dval_lt (l : List UInt8) (h : ∀ b ∈ l, Dig b) : dval l < 10 ^ l.length := by
  induction l using snoc_ind with
  | nil => simp [dval]
  | append_singleton l b ih =>
    have := ih (fun x hx => h x (by simp [hx]))
    have hb := h b (by simp)
    unfold Dig at hb
    rw [dval_snoc, List.length_append, List.length_singleton, Nat.pow_succ]
    omega
theorem dval_pos (l : List UInt8) (h : ∀ b ∈ l, Dig b) (h0 : l ≠ []) (h1 : l.getD 0 0 ≠ 48) : 1 ≤ dval l := by
  induction l using snoc_ind with
  | nil => exact absurd rfl h0
  | append_singleton l b ih =>
    have hb := h b (by simp)
    unfold Dig at hb
    rw [dval_snoc]
    cases l with
    | nil =>
      simp only [List.nil_append, List.getD_cons_zero] at h1
      have : b.toNat ≠ 48 := fun e => h1 (UInt8.toNat_inj.1 e)
      omega
    | cons x r =>
      have := ih (fun y hy => h y (by simp at hy ⊢; rcases hy with rfl | hy <;> simp [*])) (by simp) (by simpa using h1)
      omega
theorem can_dec (l : List UInt8) (h : Can l) : Lib.decDigits (dval l) = l := by
  induction l using snoc_ind with
  | nil => exact absurd rfl h.1
  | append_singleton l b ih =>
    have hb := h.2.1 b (by simp)
    unfold Dig at hb
    rw [dval_snoc]
    cases l with
    | nil =>
      unfold Lib.decDigits
      rw [dif_pos (by simp [dval]; omega)]
      simp only [List.nil_append, List.cons.injEq, and_true]
      apply UInt8.toNat_inj.1
      simp [dval]
      omega
    | cons x r =>
      have hd : ∀ y ∈ x :: r, Dig y := fun y hy => h.2.1 y (by simp at hy ⊢; rcases hy with rfl | hy <;> simp [*])
      have h48 : (x :: r).getD 0 0 ≠ 48 := by
        rcases h.2.2 with h3 | h3
        · simpa using h3
        · simp at h3
      have h1 := dval_pos (x :: r) hd (by simp) h48
      have h2 := ih ⟨by simp, hd, .inl h48⟩
      unfold Lib.decDigits
      rw [dif_neg (by omega), show (10 * dval (x :: r) + (b.toNat - 48)) / 10 = dval (x :: r) by omega, h2]
      congr 1
      simp only [List.cons.injEq, and_true]
      apply UInt8.toNat_inj.1
      simp
      omega
theorem dec_can (n : Nat) : Can (Lib.decDigits n) ∧ dval (Lib.decDigits n) = n ∧ (1 ≤ n → (Lib.decDigits n).getD 0 0 ≠ 48) := by
  induction n using Nat.strongRecOn with
  | ind n ih =>
    unfold Lib.decDigits
    by_cases h : n < 10
    · rw [dif_pos h]
      have e : (UInt8.ofNat (48 + n)).toNat = 48 + n := by simp; omega
      refine ⟨⟨by simp, fun b hb => ?_, .inr rfl⟩, ?_, fun h1 => ?_⟩
      · simp only [List.mem_singleton] at hb
        subst hb
        unfold Dig; rw [e]; omega
      · show 10 * 0 + ((UInt8.ofNat (48 + n)).toNat - 48) = n
        rw [e]; omega
      · simp only [List.getD_cons_zero]
        intro hc
        have := congrArg UInt8.toNat hc
        rw [e] at this
        have : (48 : UInt8).toNat = 48 := rfl
        omega
    · rw [dif_neg h]
      obtain ⟨⟨h1, h2, h3⟩, h4, h5⟩ := ih (n / 10) (by omega)
      have e : (UInt8.ofNat (48 + n % 10)).toNat = 48 + n % 10 := by simp; omega
      have h6 := h5 (by omega)
      have hg : (Lib.decDigits (n / 10) ++ [UInt8.ofNat (48 + n % 10)]).getD 0 0 = (Lib.decDigits (n / 10)).getD 0 0 := by
        cases hh : Lib.decDigits (n / 10) with
        | nil => exact absurd hh h1
        | cons a b => rfl
      refine ⟨⟨by simp, fun b hb => ?_, .inl (by rw [hg]; exact h6)⟩, ?_, fun _ => by rw [hg]; exact h6⟩
      · rcases List.mem_append.1 hb with hb | hb
        · exact h2 b hb
        · simp only [List.mem_singleton] at hb
          subst hb
          unfold Dig; rw [e]; omega
      · rw [dval_snoc, h4, e]; omega

theorem dval_take (l : List UInt8) (i : Nat) (h : i < l.length) : dval (l.take (i + 1)) = 10 * dval (l.take i) + ((l.getD i 0).toNat - 48) := by rw [take_at l i h, dval_snoc]
theorem getD_mem (l : List UInt8) (i : Nat) (h : i < l.length) : l.getD i 0 ∈ l := by
  rw [List.getD_eq_getElem?_getD, List.getElem?_eq_getElem h]
  exact List.getElem_mem h
theorem dval_take_lt (l : List UInt8) (i n : Nat) (h : ∀ b ∈ l.take i, Dig b) (hi : i ≤ n) : dval (l.take i) < 10 ^ n := by
  have h1 := dval_lt (l.take i) h
  have h2 : (l.take i).length ≤ n := by rw [List.length_take]; omega
  exact Nat.lt_of_lt_of_le h1 (Nat.pow_le_pow_right (by omega) h2)
theorem dig_step (l : List UInt8) (i : Nat) (h : i < l.length) (hd : ∀ b ∈ l.take i, Dig b) (h1 : Dig (l.getD i 0)) : ∀ b ∈ l.take (i + 1), Dig b := by
  rw [take_at l i h]
  intro b hb
  rcases List.mem_append.1 hb with hb | hb
  · exact hd b hb
  · simp only [List.mem_singleton] at hb; rw [hb]; exact h1
theorem dec_wrap (a : Nat) (b : UInt8) (ha : a < 10 ^ 9) (hb : Dig b) : wrap64 (wrap64 (10 * (a : Int)) + (((b.toNat : Int) - 48) % 256)) = ((10 * a + (b.toNat - 48) : Nat) : Int) := by
  unfold Dig at hb
  rw [wrap64_id (x := 10 * (a : Int)) (by omega) (by omega), wrap64_id (by omega) (by omega)]
  omega
theorem decimal_loop (s : ByteArray) (hs : s.size ≤ 9) : Tot (fun k => impl_decimal.l0 k s 0 0) (fun r => ((∀ b ∈ s.data.toList, Dig b) → r = ((dval s.data.toList : Int), true)) ∧ (r.2 = true → (∀ b ∈ s.data.toList, Dig b) ∧ r.1 = (dval s.data.toList : Int))) := by
  have hlen := bs_len s
  refine trec (σ := Nat) (fun i k => impl_decimal.l0 k s (dval (s.data.toList.take i) : Int) (i : Int)) (fun i => s.size - i) (fun i => i ≤ s.size ∧ ∀ b ∈ s.data.toList.take i, Dig b)
    (fun _ r => ((∀ b ∈ s.data.toList, Dig b) → r = ((dval s.data.toList : Int), true)) ∧ (r.2 = true → (∀ b ∈ s.data.toList, Dig b) ∧ r.1 = (dval s.data.toList : Int))) ?_ 0 ⟨Nat.zero_le _, by simp⟩
  rintro i ⟨h1, h2⟩ ih
  simp only [impl_decimal.l0]
  refine tite (fun c => ?_) (fun c => ?_)
  · have hi : i < s.size := by omega
    have hm := getD_mem s.data.toList i (by omega)
    refine tpos (by omega) ?_
    rw [bt_eq s i hi]
    refine tite (fun c2 => tsome ⟨fun h => absurd (h _ hm) (fun q => by unfold Dig at q; omega), fun h => by simp at h⟩) (fun c2 => ?_)
    refine tite (fun c3 => tsome ⟨fun h => absurd (h _ hm) (fun q => by unfold Dig at q; omega), fun h => by simp at h⟩) (fun c3 => ?_)
    have hd : Dig (s.data.toList.getD i 0) := by unfold Dig; omega
    rw [dec_wrap _ _ (dval_take_lt _ i 9 h2 (by omega)) hd, ← dval_take _ i (by omega), wrap64_id (by omega) (by omega)]
    exact ih (i + 1) ⟨by omega, dig_step _ i (by omega) h2 hd⟩ (by omega)
  · obtain rfl : i = s.size := by omega
    have e : s.data.toList.take s.size = s.data.toList := List.take_of_length_le (by omega)
    rw [e] at h2 ⊢
    exact tsome ⟨fun _ => rfl, fun _ => ⟨h2, rfl⟩⟩
theorem decimal_tot (s : ByteArray) (hs : s.size ≤ 1048576) : Tot (fun k => impl_decimal.f k s) (fun r => (Can s.data.toList ∧ s.size ≤ 9 → r = ((dval s.data.toList : Int), true)) ∧ (r.2 = true → Can s.data.toList ∧ s.size ≤ 9 ∧ r.1 = (dval s.data.toList : Int))) := by
  have hlen := bs_len s
  have hno : ¬ (Can s.data.toList ∧ s.size ≤ 9) → Tot (fun k => impl_decimal.j0 k s true) (fun r => (Can s.data.toList ∧ s.size ≤ 9 → r = ((dval s.data.toList : Int), true)) ∧ (r.2 = true → Can s.data.toList ∧ s.size ≤ 9 ∧ r.1 = (dval s.data.toList : Int))) := fun h => by
    refine tstep ?_
    simp only [impl_decimal.j0]
    exact tpos trivial (tsome ⟨fun g => absurd g h, fun g => by simp at g⟩)
  have hgo : s.size ≤ 9 → s.size ≠ 0 → (s.data.toList.getD 0 0 ≠ 48 ∨ s.size = 1) → Tot (fun k => impl_decimal.j0 k s false) (fun r => (Can s.data.toList ∧ s.size ≤ 9 → r = ((dval s.data.toList : Int), true)) ∧ (r.2 = true → Can s.data.toList ∧ s.size ≤ 9 ∧ r.1 = (dval s.data.toList : Int))) := fun h9 h0 h48 => by
    refine tstep ?_
    simp only [impl_decimal.j0]
    refine tneg (by simp) ?_
    refine tmono (decimal_loop s h9) (fun r hr => ⟨fun g => hr.1 g.1.2.1, fun g => ?_⟩)
    obtain ⟨g1, g2⟩ := hr.2 g
    exact ⟨⟨fun e => h0 (by rw [← hlen, e]; rfl), g1, by rw [hlen]; exact h48⟩, h9, g2⟩
  unfold impl_decimal.f
  rw [Go.ByteArray.toList_eq]
  refine tite (fun c => hno (fun h => h.1.1 c)) (fun c => ?_)
  have h0 : s.size ≠ 0 := fun e => c (List.eq_nil_of_length_eq_zero (by omega))
  refine tite (fun c2 => hno (fun h => by omega)) (fun c2 => ?_)
  refine tpos (by omega) ?_
  have hb := bt_eq s 0 (by omega)
  rw [show ((0 : Nat) : Int) = 0 from rfl] at hb
  rw [hb]
  refine tite (fun c3 => ?_) (fun c3 => hgo (by omega) h0 (.inl (fun e => c3 (by rw [e]; rfl))))
  by_cases h1 : (s.size : Int) > 1
  · rw [decide_eq_true h1]
    refine hno (fun h => ?_)
    rcases h.1.2.2 with h | h
    · exact h (UInt8.toNat_inj.1 (by have : (48 : UInt8).toNat = 48 := rfl; omega))
    · omega
  · rw [decide_eq_false h1]
    exact hgo (by omega) h0 (.inr (by omega))
theorem l1Read_loop (s : ByteArray) (hs : s.size ≤ 9) : Tot (fun k => spec_l1Read.l0 k s 0 0) (fun r => (∀ b ∈ s.data.toList, Dig b) → r = (dval s.data.toList : Int)) := by
  have hlen := bs_len s
  refine trec (σ := Nat) (fun i k => spec_l1Read.l0 k s (dval (s.data.toList.take i) : Int) (i : Int)) (fun i => s.size - i) (fun i => i ≤ s.size ∧ ∀ b ∈ s.data.toList.take i, Dig b)
    (fun _ r => (∀ b ∈ s.data.toList, Dig b) → r = (dval s.data.toList : Int)) ?_ 0 ⟨Nat.zero_le _, by simp⟩
  rintro i ⟨h1, h2⟩ ih
  simp only [spec_l1Read.l0]
  refine tite (fun c => ?_) (fun c => ?_)
  · have hi : i < s.size := by omega
    have hm := getD_mem s.data.toList i (by omega)
    refine tpos (by omega) ?_
    rw [bt_eq s i hi]
    refine tite (fun c2 => tsome (fun h => absurd (h _ hm) (fun q => by unfold Dig at q; omega))) (fun c2 => ?_)
    refine tite (fun c3 => tsome (fun h => absurd (h _ hm) (fun q => by unfold Dig at q; omega))) (fun c3 => ?_)
    have hd : Dig (s.data.toList.getD i 0) := by unfold Dig; omega
    rw [dec_wrap _ _ (dval_take_lt _ i 9 h2 (by omega)) hd, ← dval_take _ i (by omega), wrap64_id (by omega) (by omega)]
    exact ih (i + 1) ⟨by omega, dig_step _ i (by omega) h2 hd⟩ (by omega)
  · obtain rfl : i = s.size := by omega
    have e : s.data.toList.take s.size = s.data.toList := List.take_of_length_le (by omega)
    rw [e] at h2 ⊢
    exact tsome (fun _ => rfl)
theorem l1Read_tot (s : ByteArray) (hs : s.size ≤ 1048576) : Tot (fun k => spec_l1Read.f k s) (fun r => Can s.data.toList ∧ s.size ≤ 6 → r = (dval s.data.toList : Int)) := by
  have hlen := bs_len s
  have hno : ¬ (Can s.data.toList ∧ s.size ≤ 6) → Tot (fun k => spec_l1Read.j0 k s true) (fun r => Can s.data.toList ∧ s.size ≤ 6 → r = (dval s.data.toList : Int)) := fun h => by
    refine tstep ?_
    simp only [spec_l1Read.j0]
    exact tpos trivial (tsome (fun g => absurd g h))
  have hgo : s.size ≤ 6 → Tot (fun k => spec_l1Read.j0 k s false) (fun r => Can s.data.toList ∧ s.size ≤ 6 → r = (dval s.data.toList : Int)) := fun h9 => by
    refine tstep ?_
    simp only [spec_l1Read.j0]
    exact tneg (by simp) (tmono (l1Read_loop s (by omega)) (fun r hr g => hr g.1.2.1))
  unfold spec_l1Read.f
  rw [l1In_eq]
  simp only [Option.bind_some, decide_eq_true_eq]
  refine tite (fun c => ?_) (fun c => hno (fun h => c ⟨?_, by omega⟩))
  · refine tpos (by omega) ?_
    have hb := bt_eq s 0 (by omega)
    rw [show ((0 : Nat) : Int) = 0 from rfl] at hb
    rw [hb]
    refine tite (fun c3 => ?_) (fun c3 => hgo (by omega))
    by_cases h1 : (s.size : Int) > 1
    · rw [decide_eq_true h1]
      refine hno (fun h => ?_)
      rcases h.1.2.2 with h | h
      · exact h (UInt8.toNat_inj.1 (by have : (48 : UInt8).toNat = 48 := rfl; omega))
      · omega
    · rw [decide_eq_false h1]
      exact hgo (by omega)
  · have : s.data.toList ≠ [] := h.1.1
    have : s.data.toList.length ≠ 0 := fun e => this (List.eq_nil_of_length_eq_zero e)
    omega
theorem decText_bytes (n : Nat) : (decText n).data.toList = Lib.decDigits n := rfl
theorem decText_can (n : Nat) : Can (decText n).data.toList ∧ dval (decText n).data.toList = n := ⟨(dec_can n).1, (dec_can n).2.1⟩
theorem can_decText (s : ByteArray) (h : Can s.data.toList) : decText (dval s.data.toList) = s := bs_ext (by rw [decText_bytes]; exact can_dec _ h)
def NS (b : UInt8) : Prop := b ≠ 32 ∧ b ≠ 42 ∧ b ≠ 47 ∧ b ≠ 10
theorem dig_ns (b : UInt8) (h : Dig b) : NS b := by
  unfold Dig at h
  refine ⟨?_, ?_, ?_, ?_⟩ <;> (rintro rfl; revert h; decide)
theorem decText_ns (n : Nat) : ∀ b ∈ (decText n).data.toList, NS b := fun b hb => dig_ns b ((decText_can n).1.2.1 b hb)
instance (b : UInt8) : Decidable (NS b) := by unfold NS; exact inferInstance
theorem noteName_ns (i : Int) (h0 : 0 ≤ i) (h1 : i < 12) : ∀ b ∈ (rdOf ByteArray.empty noteNames i).data.toList, NS b := by
  obtain rfl | rfl | rfl | rfl | rfl | rfl | rfl | rfl | rfl | rfl | rfl | rfl : i = 0 ∨ i = 1 ∨ i = 2 ∨ i = 3 ∨ i = 4 ∨ i = 5 ∨ i = 6 ∨ i = 7 ∨ i = 8 ∨ i = 9 ∨ i = 10 ∨ i = 11 := by omega
  all_goals decide
theorem noteName_inj : ∀ i j : Fin 12, (rdOf ByteArray.empty noteNames (i.val : Int)).data.toList = (rdOf ByteArray.empty noteNames (j.val : Int)).data.toList → i = j := by decide
theorem pitchText_bytes (p : Int) : (pitchText p).data.toList = (rdOf ByteArray.empty noteNames (p % 12)).data.toList ++ (decText (p / 12).toNat).data.toList := by unfold pitchText; simp
theorem pitchText_ns (p : Int) (h0 : 24 ≤ p) (h1 : p ≤ 96) : ∀ b ∈ (pitchText p).data.toList, NS b := by
  rw [pitchText_bytes]
  intro b hb
  rcases List.mem_append.1 hb with hb | hb
  · exact noteName_ns (p % 12) (by omega) (by omega) b hb
  · exact decText_ns _ b hb
theorem decText_one (u : Nat) (h : u < 10) : (decText u).data.toList = [UInt8.ofNat (48 + u)] := by rw [decText_bytes]; unfold Lib.decDigits; rw [dif_pos h]
theorem pitchText_inj (p q : Int) (h0 : 24 ≤ p) (h1 : p ≤ 96) (h2 : 24 ≤ q) (h3 : q ≤ 96) (h : (pitchText p).data.toList = (pitchText q).data.toList) : p = q := by
  rw [pitchText_bytes, pitchText_bytes, decText_one (p / 12).toNat (by omega), decText_one (q / 12).toNat (by omega)] at h
  obtain ⟨e1, e2⟩ := List.append_inj' h rfl
  have e3 := noteName_inj ⟨(p % 12).toNat, by omega⟩ ⟨(q % 12).toNat, by omega⟩ (by
    show (rdOf ByteArray.empty noteNames (((p % 12).toNat : Nat) : Int)).data.toList = (rdOf ByteArray.empty noteNames (((q % 12).toNat : Nat) : Int)).data.toList
    rw [show (((p % 12).toNat : Nat) : Int) = p % 12 by omega, show (((q % 12).toNat : Nat) : Int) = q % 12 by omega]; exact e1)
  have e4 : (p % 12).toNat = (q % 12).toNat := congrArg Fin.val e3
  simp only [List.cons.injEq, and_true] at e2
  have e5 := congrArg UInt8.toNat e2
  simp at e5
  omega
theorem pitchText_long (p : Int) (h0 : 24 ≤ p) (h1 : p ≤ 96) : 2 ≤ (pitchText p).data.toList.length := by
  rw [pitchText_bytes, List.length_append, bs_len, bs_len]
  have := (noteName_size (p % 12) (by omega) (by omega)).2
  have := (decText_size (p / 12).toNat (by omega)).2
  omega
def fpf (w : List UInt8) : Nat → Int → Option Int
  | 0, _ => none
  | n + 1, p => if (pitchText p).data.toList = w then some p else fpf w n (p + 1)
theorem fpf_some (w : List UInt8) : ∀ (n : Nat) (p q : Int), fpf w n p = some q → p ≤ q ∧ q < p + n ∧ (pitchText q).data.toList = w
  | 0, p, q, h => by simp [fpf] at h
  | n + 1, p, q, h => by
    unfold fpf at h
    split at h
    · rename_i c
      obtain rfl := Option.some.inj h
      exact ⟨Int.le_refl _, by omega, c⟩
    · have := fpf_some w n (p + 1) q h
      exact ⟨by omega, by omega, this.2.2⟩
theorem fpf_hit (q : Int) : ∀ (n : Nat) (p : Int), p ≤ q → q < p + n → 24 ≤ p → p + n ≤ 97 → fpf (pitchText q).data.toList n p = some q
  | 0, p, h1, h2, h3, h4 => by omega
  | n + 1, p, h1, h2, h3, h4 => by
    unfold fpf
    by_cases c : (pitchText p).data.toList = (pitchText q).data.toList
    · rw [if_pos c, pitchText_inj p q (by omega) (by omega) (by omega) (by omega) c]
    · rw [if_neg c]
      have : p ≠ q := fun e => c (by rw [e])
      exact fpf_hit q n (p + 1) (by omega) (by omega) (by omega) (by omega)
theorem ntRead_loop (s : ByteArray) : ∀ (n : Nat) (p : Int), p + n = 97 → 24 ≤ p → Tot (fun k => spec_ntRead.l0 k s p) (fun r => r = (fpf s.data.toList n p).getD (-1))
  | 0, p, h, h0 => by
    refine tstep ?_
    simp only [spec_ntRead.l0]
    exact tneg (by omega) (tsome rfl)
  | n + 1, p, h, h0 => by
    refine tstep ?_
    simp only [spec_ntRead.l0]
    refine tpos (by omega) ?_
    refine tbind (ntName_tot p (by omega) (by omega)) (fun _ e => ?_); subst e
    rw [Go.ByteArray.toList_eq, Go.ByteArray.toList_eq, wrap64_id (by omega) (by omega)]
    unfold fpf
    refine tite (fun c => tsome (by rw [if_pos c]; rfl)) (fun c => ?_)
    rw [if_neg c]
    exact ntRead_loop s n (p + 1) (by omega) (by omega)
theorem ntRead_tot (s : ByteArray) : Tot (fun k => spec_ntRead.f k s) (fun r => r = (fpf s.data.toList 73 24).getD (-1)) := ntRead_loop s 73 24 (by omega) (by omega)
theorem pitchNamed_loop (s : ByteArray) : ∀ (n : Nat) (p : Int), p + n = 97 → 24 ≤ p → Tot (fun k => impl_pitchNamed.l0 k s p) (fun r => r = (fpf s.data.toList n p).getD 0)
  | 0, p, h, h0 => by
    refine tstep ?_
    simp only [impl_pitchNamed.l0]
    exact tneg (by omega) (tsome rfl)
  | n + 1, p, h, h0 => by
    refine tstep ?_
    simp only [impl_pitchNamed.l0]
    refine tpos (by omega) ?_
    rw [pitchName_eq p (by omega) (by omega)]
    simp only [Option.bind_some]
    rw [Go.ByteArray.toList_eq, Go.ByteArray.toList_eq, wrap64_id (by omega) (by omega)]
    unfold fpf
    refine tite (fun c => tsome (by rw [if_pos c]; rfl)) (fun c => ?_)
    rw [if_neg c]
    exact pitchNamed_loop s n (p + 1) (by omega) (by omega)
theorem pitchNamed_tot (s : ByteArray) : Tot (fun k => impl_pitchNamed.f k s) (fun r => r = (fpf s.data.toList 73 24).getD 0) := pitchNamed_loop s 73 24 (by omega) (by omega)
theorem ns_no1 (c : UInt8) (hc : ¬ NS c) (l : List UInt8) (h : ∀ b ∈ l, NS b) : c ∉ l := fun hm => hc (h c hm)
theorem mem_len (c : UInt8) (l : List UInt8) : ∀ w ∈ sp c l, w.length ≤ l.length := by
  induction l with
  | nil => simp [sp]
  | cons b l ih =>
    obtain ⟨x, t, e⟩ := sp_cons c l
    unfold sp
    rw [e] at ih ⊢
    split
    · intro w hw
      rcases List.mem_cons.1 hw with rfl | hw
      · simp
      · have := ih w hw; simp; omega
    · intro w hw
      simp only [List.headD_cons, List.tail_cons] at hw
      rcases List.mem_cons.1 hw with rfl | hw
      · have := ih x (by simp); simp; omega
      · have := ih w (List.mem_cons_of_mem _ hw); simp; omega
theorem rd_mem_size1 {r : List ByteArray} {c : UInt8} {l : List UInt8} (h : r.map (·.data.toList) = sp c l) (i : Int) : (rdOf ByteArray.empty r i).size ≤ l.length := by
  unfold rdOf
  rw [List.getD_eq_getElem?_getD]
  cases hh : r[i.toNat]? with
  | none => exact Nat.zero_le _
  | some a =>
    have : a.data.toList ∈ sp c l := by rw [← h]; exact List.mem_map_of_mem (List.mem_of_getElem? hh)
    have := mem_len c l _ this
    rw [bs_len] at this
    exact this
theorem dec6 (n : Nat) (h : n < 1000000) : (decText n).size ≤ 6 := by
  have key : ∀ (d u : Nat), u < 10 ^ (d + 1) → d ≤ 5 → (decText u).size ≤ d + 1 := by
    intro d
    induction d with
    | zero => intro u hu _; rw [decText_small u (by omega)]; exact Nat.le_refl _
    | succ d ih =>
      intro u hu hd
      by_cases h10 : u < 10
      · rw [decText_small u h10]; show 1 ≤ _; omega
      · have hlt : u < 1000000 := Nat.lt_of_lt_of_le hu (Nat.pow_le_pow_right (by omega) (show d + 1 + 1 ≤ 6 by omega))
        rw [decText_big u h10 (by omega), ByteArray.size_append]
        have h1 := ih (u / 10) (by rw [Nat.pow_succ] at hu; omega) (by omega)
        have h2 : (strOfNums ([(wrap64 (48 + ((u % 10 : Nat) : Int))) % 256] : List Int)).size = 1 := rfl
        omega
  exact key 5 n (by omega) (by omega)
theorem cut_hit (c : UInt8) (x r : List UInt8) (h : c ∉ x) : Lib.cut (x ++ c :: r) [c] = (x, r, true) := by
  unfold Lib.cut
  rw [index_hit1 c x r h, if_pos (by omega)]
  simp
theorem cut_true (c : UInt8) (l : List UInt8) (h : (Lib.cut l [c]).2.2 = true) : c ∉ (Lib.cut l [c]).1 ∧ l = (Lib.cut l [c]).1 ++ c :: (Lib.cut l [c]).2.1 := by
  rcases find_c c l with h1 | ⟨x, r, h1, rfl⟩
  · unfold Lib.cut at h
    rw [index_none1 c l h1, if_neg (by omega)] at h
    cases h
  · rw [cut_hit c x r h1]
    exact ⟨h1, rfl⟩

theorem suffix_eq (s : ByteArray) (hs : s.size ≤ 1048576) : ∃ b, strings_HasSuffix.f s (⟨#[10]⟩ : ByteArray) = some b ∧ (b = true ↔ ∃ p, s.data.toList = p ++ [10]) := by
  have hlen := bs_len s
  have z : (⟨#[10]⟩ : ByteArray).size = 1 := rfl
  unfold strings_HasSuffix.f stringslite_HasSuffix.f
  rw [z]
  by_cases h : (s.size : Int) ≥ ((1 : Nat) : Int)
  · rw [if_pos h, wrap64_id (x := (s.size : Int) - ((1 : Nat) : Int)) (by omega) (by omega), if_pos (by omega), if_pos (by omega)]
    refine ⟨_, rfl, ?_⟩
    rw [beq_iff_eq, Go.ByteArray.toList_eq, Go.ByteArray.toList_eq, ex_data, show ((s.size : Int) - ((1 : Nat) : Int)).toNat = s.size - 1 by omega]
    have e : s.data.toList = s.data.toList.take (s.size - 1) ++ s.data.toList.drop (s.size - 1) := (List.take_append_drop _ _).symm
    rw [List.take_of_length_le (by rw [List.length_drop]; omega)]
    show s.data.toList.drop (s.size - 1) = [10] ↔ _
    constructor
    · intro h1
      exact ⟨s.data.toList.take (s.size - 1), by rw [h1] at e; exact e⟩
    · rintro ⟨p, hp⟩
      have : p.length = s.size - 1 := by have := congrArg List.length hp; simp at this; omega
      rw [hp, ← this, List.drop_left]
  · rw [if_neg h]
    refine ⟨false, rfl, ⟨fun h => by simp at h, ?_⟩⟩
    rintro ⟨p, hp⟩
    have := congrArg List.length hp
    simp at this
    omega
theorem init_data (s : ByteArray) (p : List UInt8) (h : s.data.toList = p ++ [10]) : (s.extract 0 ((s.size : Int) - 1).toNat).data.toList = p ∧ (s.extract 0 ((s.size : Int) - 1).toNat).size = p.length ∧ s.size = p.length + 1 := by
  have hlen := bs_len s
  have h1 := congrArg List.length h
  rw [List.length_append, List.length_singleton] at h1
  have e : (s.extract 0 ((s.size : Int) - 1).toNat).data.toList = p := by
    rw [ex_data, List.drop_zero, h, show ((s.size : Int) - 1).toNat - 0 = p.length by omega, List.take_left]
  exact ⟨e, by rw [← bs_len, e], by omega⟩

theorem eqInstrument (l : List Int) (a : Int) (hl : l.length ≤ 1048576) : Tot (fun k => laws_eqInstrument.f k l a l a) (fun r => r = true) := by
  unfold laws_eqInstrument.f
  refine tbind (eqIntS l hl) (fun _ e => ?_); subst e
  exact tpos rfl (tpos rfl (tsome rfl))

def pb (p : Int) : List UInt8 := (pitchText p).data.toList
def inW (l : List Int) (a : Int) : List (List UInt8) := l.map pb ++ [(decText a.toNat).data.toList]
def inB (l : List Int) (a : Int) : List UInt8 := Lib.join (inW l a) [32] ++ [10]
theorem rd_in (l : List Int) (i : Nat) (h : i < l.length) : rd l (i : Int) = l[i] := by
  unfold rd
  rw [List.getD_eq_getElem?_getD]
  simp [h]
theorem take_in (l : List Int) (i : Nat) (h : i < l.length) : l.take (i + 1) = l.take i ++ [rd l (i : Int)] := by
  rw [rd_in l i h, List.take_add_one, List.getElem?_eq_getElem h]
  rfl
theorem in_mem (l : List Int) (a : Int) (hg : InGood l a) : ∀ p ∈ l, 24 ≤ p ∧ p ≤ 96 := by
  intro p hp
  obtain ⟨i, hi, rfl⟩ := List.getElem_of_mem hp
  have := hg.1 (i : Int) (by omega) (by omega)
  unfold InC at this
  rw [rd_in l i hi] at this
  exact ⟨this.1, this.2.1⟩
theorem ins_bytes (l : List Int) (i : Nat) (h : i ≤ l.length) : (insUpto l i).data.toList = ((l.take i).map (fun p => pb p ++ [32])).flatten := by
  induction i with
  | zero => rfl
  | succ i ih =>
    rw [take_in l i (by omega), List.map_append]
    show (insUpto l i ++ (pitchText (rd l i) ++ (⟨#[32]⟩ : ByteArray))).data.toList = _
    have e : (insUpto l i ++ (pitchText (rd l i) ++ (⟨#[32]⟩ : ByteArray))).data.toList = (insUpto l i).data.toList ++ (pb (rd l i) ++ [32]) := by simp [pb]
    rw [e, ih (by omega)]
    simp
theorem join_ins (l : List Int) (x : List UInt8) : Lib.join (l.map pb ++ [x]) [32] = (l.map (fun p => pb p ++ [32])).flatten ++ x := by
  induction l with
  | nil => exact Lib.join_one x [32]
  | cons p r ih =>
    have e : (p :: r).map pb ++ [x] = pb p :: (r.map pb ++ [x]) := rfl
    rw [e, Lib.join_cons]
    have h2 : Lib.joinTail [32] (r.map pb ++ [x]) = 32 :: Lib.join (r.map pb ++ [x]) [32] := by
      cases r with
      | nil => rw [List.map_nil, List.nil_append, Lib.join_one]; simp [Lib.joinTail]
      | cons y r => rw [List.map_cons, List.cons_append, Lib.join_cons]; simp [Lib.joinTail]
    rw [h2, ih]
    simp
theorem in_all (l : List Int) (a : Int) : ((insUpto l l.length ++ decText a.toNat) ++ (⟨#[10]⟩ : ByteArray)).data.toList = inB l a := by
  have e : ((insUpto l l.length ++ decText a.toNat) ++ (⟨#[10]⟩ : ByteArray)).data.toList = ((insUpto l l.length).data.toList ++ (decText a.toNat).data.toList) ++ [10] := by simp
  rw [e, ins_bytes l l.length (Nat.le_refl _), List.take_length]
  unfold inB inW
  rw [join_ins]
theorem inW_ns (l : List Int) (a : Int) (hg : InGood l a) : ∀ w ∈ inW l a, ∀ b ∈ w, NS b := by
  intro w hw
  rcases List.mem_append.1 hw with hw | hw
  · obtain ⟨p, hp, rfl⟩ := List.mem_map.1 hw
    have := in_mem l a hg p hp
    exact pitchText_ns p this.1 this.2
  · simp only [List.mem_singleton] at hw
    subst hw
    exact decText_ns _
theorem join_mem (ws : List (List UInt8)) (b : UInt8) (h : b ∈ Lib.join ws [32]) : b = 32 ∨ ∃ w ∈ ws, b ∈ w := by
  induction ws with
  | nil => exact absurd h (by simp [Lib.join_nil])
  | cons x r ih =>
    rw [Lib.join_cons] at h
    rcases List.mem_append.1 h with h | h
    · exact .inr ⟨x, by simp, h⟩
    · unfold Lib.joinTail at h
      obtain ⟨y, hy, hb⟩ := List.mem_flatten.1 h
      obtain ⟨z, hz, rfl⟩ := List.mem_map.1 hy
      rcases List.mem_append.1 hb with hb | hb
      · exact .inl (by simpa using hb)
      · exact .inr ⟨z, List.mem_cons_of_mem _ hz, hb⟩
theorem line_ten (l : List Int) (a : Int) (hg : InGood l a) : (10 : UInt8) ∉ Lib.join (inW l a) [32] := by
  intro hm
  rcases join_mem _ _ hm with h | ⟨w, hw, hb⟩
  · exact absurd h (by decide)
  · exact ns_no1 10 (by decide) w (inW_ns l a hg w hw) hb
theorem sp_line (l : List Int) (a : Int) (hg : InGood l a) : sp 32 (Lib.join (inW l a) [32]) = inW l a := sp_of_join 32 _ (by simp [inW]) (fun w hw => ns_no1 32 (by decide) w (inW_ns l a hg w hw))
theorem pb_len (p : Int) (h0 : 24 ≤ p) (h1 : p ≤ 96) : (pb p).length ≤ 3 := by
  unfold pb
  rw [pitchText_bytes, List.length_append, decText_one _ (by omega), bs_len]
  have := (noteName_size (p % 12) (by omega) (by omega)).1
  simp only [List.length_singleton]
  omega
theorem inB_len (l : List Int) (a : Int) (hg : InGood l a) : (inB l a).length ≤ 100 := by
  have key : ∀ r : List Int, (∀ p ∈ r, 24 ≤ p ∧ p ≤ 96) → ((r.map (fun p => pb p ++ [32])).flatten).length ≤ 4 * r.length := by
    intro r hr
    induction r with
    | nil => simp
    | cons p r ih =>
      have h1 := ih (fun q hq => hr q (List.mem_cons_of_mem _ hq))
      have h2 := hr p (by simp)
      have h3 := pb_len p h2.1 h2.2
      simp only [List.map_cons, List.flatten_cons, List.length_append, List.length_cons, List.length_nil] at h1 ⊢
      omega
  have h1 := key l (in_mem l a hg)
  have h2 := dec6 a.toNat (by have := hg.2; omega)
  have h3 := hg.2
  unfold inB inW
  rw [join_ins, List.length_append, List.length_append, bs_len, List.length_singleton]
  omega
theorem map_rd2 (t : List ByteArray) (l : List (List UInt8)) (h : t.map (·.data.toList) = l) (i : Nat) (hi : i < t.length) : (rdOf ByteArray.empty t (i : Int)).data.toList = l.getD i [] := by
  subst h
  unfold rdOf
  rw [List.getD_eq_getElem?_getD, List.getD_eq_getElem?_getD, List.getElem?_map]
  simp [hi]
theorem inW_at (l : List Int) (a : Int) (i : Nat) (hi : i < l.length) : (inW l a).getD i [] = pb (rd l (i : Int)) := by
  unfold inW
  rw [List.getD_eq_getElem?_getD, List.getElem?_append_left (by simpa using hi), List.getElem?_map, List.getElem?_eq_getElem hi, rd_in l i hi]
  rfl
theorem inW_last (l : List Int) (a : Int) : (inW l a).getD l.length [] = (decText a.toNat).data.toList := by
  unfold inW
  rw [List.getD_eq_getElem?_getD, List.getElem?_append_right (by simp)]
  simp
theorem specPI_hit (s : ByteArray) (hs : s.size ≤ 1048576) (l : List Int) (a : Int) (hg : InGood l a) (he : inB l a = s.data.toList) : Tot (fun k => spec_ParseInstrument.f k s) (fun r => r = (l, a, true)) := by
  have hlen := bs_len s
  have hn := hg.2
  unfold spec_ParseInstrument.f spec_inParse.f
  refine tbind (Q := fun r => r = (l, a, true)) ?_ (fun _ e => by subst e; exact tsome rfl)
  refine tbind (l1Split_tot s 10 hs) (fun t ht => ?_)
  rw [← he] at ht
  unfold inB at ht
  rw [sp_hit 10 _ [] (line_ten l a hg), show sp 10 [] = [[]] from rfl] at ht
  have hl : t.length = 2 := by have := congrArg List.length ht; simpa using this
  have h0 := map_rd2 t _ ht 0 (by omega)
  rw [show ((0 : Nat) : Int) = 0 from rfl, List.getD_cons_zero] at h0
  have hz : (rdOf ByteArray.empty t 0).size ≤ 1048576 := by
    rw [← bs_len, h0]
    have := congrArg List.length he
    unfold inB at this
    rw [List.length_append, List.length_singleton] at this
    omega
  refine tpos (by omega) ?_
  refine tbind (l1Split_tot _ 32 hz) (fun t2 ht2 => ?_)
  rw [h0, sp_line l a hg] at ht2
  have hl2 : t2.length = l.length + 1 := by have := congrArg List.length ht2; simpa [inW] using this
  refine tneg (by omega) ?_
  rw [wrap64_id (x := (t2.length : Int) - 1) (by omega) (by omega), show (t2.length : Int) - 1 = (l.length : Int) by omega]
  refine tpos (by omega) (tpos (by omega) ?_)
  have hlast := map_rd2 t2 _ ht2 l.length (by omega)
  rw [inW_last] at hlast
  have h6 := dec6 a.toNat (by omega)
  have hq := congrArg List.length hlast
  rw [bs_len, bs_len] at hq
  refine tbind (l1Read_tot _ (by omega)) (fun m g => ?_)
  have hm : m = a := by rw [g ⟨by rw [hlast]; exact (decText_can _).1, by omega⟩, hlast, (decText_can _).2]; omega
  subst hm
  refine tpos (by omega) ?_
  simp only [Option.bind_some, Int.toNat_natCast]
  have hl3 : (t2.take l.length).length = l.length := by rw [List.length_take]; omega
  rw [hl3]
  refine trec (σ := Nat) (fun i k => spec_inParse.l0 k s (t2.take l.length) (l.length : Int) (i : Int) (l.take i) m) (fun i => l.length - i) (fun i => i ≤ l.length) (fun _ r => r = (l, m, true)) ?_ 0 (Nat.zero_le _)
  intro i hi ih
  simp only [spec_inParse.l0]
  refine tite (fun c => ?_) (fun c => ?_)
  · have hi2 : i < l.length := by omega
    have hp := in_mem l m hg (rd l i) (by rw [rd_in l i hi2]; exact List.getElem_mem hi2)
    have hw := map_rd2 t2 _ ht2 i (by omega)
    rw [inW_at l m i hi2] at hw
    have hrd : rdOf ByteArray.empty (t2.take l.length) (i : Int) = rdOf ByteArray.empty t2 (i : Int) := by
      unfold rdOf
      rw [List.getD_eq_getElem?_getD, List.getD_eq_getElem?_getD, List.getElem?_take_of_lt (by omega)]
    refine tpos (by omega) (tpos (by omega) ?_)
    rw [hrd]
    refine tbind (ntRead_tot _) (fun p h => ?_)
    rw [hw] at h
    unfold pb at h
    rw [fpf_hit _ 73 24 (by omega) (by omega) (by omega) (by omega)] at h
    simp only [Option.getD_some] at h
    subst h
    refine tpos (by rw [List.length_take]; omega) ?_
    rw [wrap64_id (by omega) (by omega)]
    have := ih (i + 1) (by omega) (by omega)
    rw [take_in l i hi2] at this
    exact this
  · obtain rfl : i = l.length := by omega
    rw [List.take_length]
    refine tbind (inGood_tot l m (by omega)) (fun b hb => tpos (hb.2 hg) ?_)
    refine tbind (inText_tot l m hg) (fun _ e => ?_); subst e
    rw [Go.ByteArray.toList_eq, Go.ByteArray.toList_eq]
    exact tpos ((in_all l m).trans he) (tsome rfl)
theorem specPI_miss (s : ByteArray) (hs : s.size ≤ 1048576) (hno : ∀ (l : List Int) (a : Int), InGood l a → inB l a ≠ s.data.toList) : Tot (fun k => spec_ParseInstrument.f k s) (fun r => r = ([], 0, false)) := by
  have hlen := bs_len s
  unfold spec_ParseInstrument.f spec_inParse.f
  refine tbind (Q := fun r => r = ([], 0, false)) ?_ (fun _ e => by subst e; exact tsome rfl)
  refine tbind (l1Split_tot s 10 hs) (fun t ht => ?_)
  have pos : ∀ (t : List ByteArray) (c : UInt8) (x : List UInt8), t.map (·.data.toList) = sp c x → 0 < t.length := by
    intro t c x h
    have := congrArg List.length h
    have h2 : (sp c x).length ≠ 0 := fun e => sp_ne c x (List.eq_nil_of_length_eq_zero e)
    rw [List.length_map] at this
    omega
  have p1 := pos t 10 _ ht
  have z := rd_mem_size1 ht 0
  have hb := bs_len (rdOf ByteArray.empty t 0)
  refine tpos (by omega) ?_
  refine tbind (l1Split_tot _ 32 (by omega)) (fun t2 ht2 => ?_)
  have p2 := pos t2 32 _ ht2
  refine tite (fun c => tsome rfl) (fun c21 => ?_)
  rw [wrap64_id (x := (t2.length : Int) - 1) (by omega) (by omega)]
  refine tpos (by omega) (tpos (by omega) ?_)
  have z2 := rd_mem_size1 ht2 ((t2.length : Int) - 1)
  refine tbind (l1Read_tot _ (by omega)) (fun m _ => ?_)
  refine tpos (by omega) ?_
  simp only [Option.bind_some]
  refine trec (σ := List Int × Nat) (fun q k => spec_inParse.l0 k s (t2.take ((t2.length : Int) - 1).toNat) ((t2.take ((t2.length : Int) - 1).toNat).length : Int) (q.2 : Int) q.1 m) (fun q => t2.length - q.2) (fun q => q.2 ≤ t2.length ∧ q.1.length = q.2) (fun _ r => r = ([], 0, false)) ?_ ([], 0) ⟨Nat.zero_le _, rfl⟩
  rintro ⟨acc, i⟩ ⟨h1, h2⟩ ih
  dsimp only at h1 h2 ⊢
  have hlt : (t2.take ((t2.length : Int) - 1).toNat).length = t2.length - 1 := by rw [List.length_take]; omega
  simp only [spec_inParse.l0]
  refine tite (fun c => ?_) (fun c => ?_)
  · refine tpos (by omega) (tpos c ?_)
    refine tbind (ntRead_tot _) (fun p _ => ?_)
    refine tpos (by omega) ?_
    rw [wrap64_id (by omega) (by omega)]
    have := ih (acc ++ [p], i + 1) ⟨by dsimp only; omega, by simp; omega⟩ (by dsimp only; omega)
    simpa using this
  · refine tbind (inGood_tot acc m (by omega)) (fun b hb => ?_)
    refine tite (fun c2 => ?_) (fun _ => tsome rfl)
    have hg := hb.1 c2
    refine tbind (inText_tot acc m hg) (fun _ e => ?_); subst e
    rw [Go.ByteArray.toList_eq, Go.ByteArray.toList_eq]
    exact tneg (fun h => hno acc m hg ((in_all acc m).symm.trans h)) (tsome rfl)

theorem implPI_go (s : ByteArray) (hs : s.size ≤ 200) (p : List UInt8) (hp : s.data.toList = p ++ [10]) : ∃ t, strings_Split.f (s.extract 0 ((s.size : Int) - 1).toNat) (⟨#[32]⟩ : ByteArray) = some t ∧ t.map (·.data.toList) = sp 32 p := by
  obtain ⟨i1, i2, i3⟩ := init_data s p hp
  obtain ⟨t, ht, ht2⟩ := split_eq (s.extract 0 ((s.size : Int) - 1).toNat) 32 (by omega)
  exact ⟨t, ht, by rw [ht2, i1]⟩
theorem implPI_hit (s : ByteArray) (l : List Int) (a : Int) (hg : InGood l a) (he : inB l a = s.data.toList) : Tot (fun k => impl_ParseInstrument.f k s) (fun r => r = (l, a, true)) := by
  have hlen := bs_len s
  have hn := hg.2
  have hs : s.size ≤ 100 := by rw [← hlen, ← he]; exact inB_len l a hg
  obtain ⟨b, hb, hb2⟩ := suffix_eq s (by omega)
  have hp : s.data.toList = Lib.join (inW l a) [32] ++ [10] := he.symm
  obtain ⟨t2, h1, ht2⟩ := implPI_go s (by omega) _ hp
  rw [sp_line l a hg] at ht2
  have hs1 : 1 ≤ s.size := by have := congrArg List.length hp; rw [List.length_append, List.length_singleton] at this; omega
  unfold impl_ParseInstrument.f
  refine tneg (by omega) ?_
  rw [hb]
  simp only [Option.bind_some]
  rw [hb2.2 ⟨_, hp⟩]
  refine tstep ?_
  simp only [impl_ParseInstrument.j0]
  refine tneg (by simp) ?_
  rw [wrap64_id (x := (s.size : Int) - 1) (by omega) (by omega), h1]
  refine tpos (by omega) (tpos (by omega) ?_)
  simp only [Option.bind_some]
  have hl2 : t2.length = l.length + 1 := by have := congrArg List.length ht2; simpa [inW] using this
  rw [wrap64_id (x := (t2.length : Int) - 1) (by omega) (by omega), show (t2.length : Int) - 1 = (l.length : Int) by omega]
  refine tpos (by omega) (tpos (by omega) ?_)
  have hlast := map_rd2 t2 _ ht2 l.length (by omega)
  rw [inW_last] at hlast
  have h6 := dec6 a.toNat (by omega)
  have hq := congrArg List.length hlast
  rw [bs_len, bs_len] at hq
  refine tbind (decimal_tot _ (by omega)) (fun m g => ?_)
  have hm := g.1 ⟨by rw [hlast]; exact (decText_can _).1, by omega⟩
  rw [hlast, (decText_can _).2, show ((a.toNat : Nat) : Int) = a by omega] at hm
  subst hm
  refine tpos (by trivial) (tpos (by omega) ?_)
  simp only [Int.toNat_natCast]
  have hl3 : (t2.take l.length).length = l.length := by rw [List.length_take]; omega
  rw [hl3]
  refine trec (σ := Nat) (fun i k => impl_ParseInstrument.l0 k (t2.take l.length) (l.length : Int) (i : Int) (l.take i) a) (fun i => l.length - i) (fun i => i ≤ l.length) (fun _ r => r = (l, a, true)) ?_ 0 (Nat.zero_le _)
  intro i hi ih
  simp only [impl_ParseInstrument.l0]
  refine tite (fun c => ?_) (fun c => ?_)
  · have hi2 : i < l.length := by omega
    have hp := in_mem l a hg (rd l i) (by rw [rd_in l i hi2]; exact List.getElem_mem hi2)
    have hw := map_rd2 t2 _ ht2 i (by omega)
    rw [inW_at l a i hi2] at hw
    have hrd : rdOf ByteArray.empty (t2.take l.length) (i : Int) = rdOf ByteArray.empty t2 (i : Int) := by
      unfold rdOf
      rw [List.getD_eq_getElem?_getD, List.getD_eq_getElem?_getD, List.getElem?_take_of_lt (by omega)]
    refine tpos (by omega) (tpos (by omega) ?_)
    rw [hrd]
    refine tbind (pitchNamed_tot _) (fun p h => ?_)
    rw [hw] at h
    unfold pb at h
    rw [fpf_hit _ 73 24 (by omega) (by omega) (by omega) (by omega)] at h
    simp only [Option.getD_some] at h
    subst h
    refine tpos (by rw [List.length_take]; omega) ?_
    rw [wrap64_id (by omega) (by omega)]
    have := ih (i + 1) (by omega) (by omega)
    rw [take_in l i hi2] at this
    exact this
  · obtain rfl : i = l.length := by omega
    rw [List.take_length]
    exact tbind (isInstrument_tot l a (by omega)) (fun b hb => tpos (hb.2 hg) (tsome rfl))
theorem implPI_miss (s : ByteArray) (hs : s.size ≤ 1048576) (hno : ∀ (l : List Int) (a : Int), InGood l a → inB l a ≠ s.data.toList) : Tot (fun k => impl_ParseInstrument.f k s) (fun r => r = ([], 0, false)) := by
  have hlen := bs_len s
  have hF : Tot (fun k => impl_ParseInstrument.j0 k s true) (fun r => r = ([], 0, false)) := by
    refine tstep ?_
    simp only [impl_ParseInstrument.j0]
    exact tpos trivial (tsome rfl)
  unfold impl_ParseInstrument.f
  refine tite (fun c => hF) (fun c200 => ?_)
  obtain ⟨b, hb, hb2⟩ := suffix_eq s hs
  rw [hb]
  simp only [Option.bind_some]
  by_cases hbt : b = true
  case neg => rw [Bool.eq_false_iff.2 hbt]; exact hF
  subst hbt
  obtain ⟨p, hp⟩ := hb2.1 rfl
  obtain ⟨t2, h1, ht2⟩ := implPI_go s (by omega) p hp
  have hpl := congrArg List.length hp
  rw [List.length_append, List.length_singleton] at hpl
  refine tstep ?_
  simp only [impl_ParseInstrument.j0]
  refine tneg (by simp) ?_
  rw [wrap64_id (x := (s.size : Int) - 1) (by omega) (by omega), h1]
  refine tpos (by omega) (tpos (by omega) ?_)
  simp only [Option.bind_some]
  have pos : 0 < t2.length := by
    have := congrArg List.length ht2
    have h2 : (sp 32 p).length ≠ 0 := fun e => sp_ne 32 p (List.eq_nil_of_length_eq_zero e)
    rw [List.length_map] at this
    omega
  have hmax : t2.length ≤ 1048576 := by have := congrArg List.length ht2; rw [List.length_map] at this; have := sp_len 32 p; omega
  obtain ⟨n, hn⟩ : ∃ n, t2.length = n + 1 := ⟨t2.length - 1, by omega⟩
  rw [wrap64_id (x := (t2.length : Int) - 1) (by omega) (by omega), show (t2.length : Int) - 1 = (n : Int) by omega]
  refine tpos (by omega) (tpos (by omega) ?_)
  have z2 := rd_mem_size1 ht2 (n : Int)
  have hlast := map_rd2 t2 _ rfl n (by omega)
  refine tbind (decimal_tot _ (by omega)) (fun m g => ?_)
  refine tite (fun k1 => ?_) (fun _ => tsome rfl)
  obtain ⟨d1, _, d2⟩ := g.2 k1
  refine tpos (by omega) ?_
  simp only [Int.toNat_natCast]
  have hlt : (t2.take n).length = n := by rw [List.length_take]; omega
  rw [hlt]
  refine trec (σ := List Int × Nat) (fun q k => impl_ParseInstrument.l0 k (t2.take n) (n : Int) (q.2 : Int) q.1 m.1) (fun q => n - q.2) (fun q => q.2 ≤ n ∧ q.1.length = q.2 ∧ ((∀ x ∈ q.1, x ≠ 0) → q.1.map pb = (t2.map (·.data.toList)).take q.2)) (fun _ r => r = ([], 0, false)) ?_ ([], 0) ⟨Nat.zero_le _, rfl, by simp⟩
  rintro ⟨acc, i⟩ ⟨h3, h4, h5⟩ ih
  dsimp only at h3 h4 h5 ⊢
  simp only [impl_ParseInstrument.l0]
  refine tite (fun c => ?_) (fun c => ?_)
  · have hi : i < n := by omega
    have hw := map_rd2 t2 _ rfl i (by omega)
    have hrd : rdOf ByteArray.empty (t2.take n) (i : Int) = rdOf ByteArray.empty t2 (i : Int) := by
      unfold rdOf
      rw [List.getD_eq_getElem?_getD, List.getD_eq_getElem?_getD, List.getElem?_take_of_lt (by omega)]
    refine tpos (by omega) (tpos (by omega) ?_)
    rw [hrd]
    refine tbind (pitchNamed_tot _) (fun q hq => ?_)
    refine tpos (by omega) ?_
    rw [wrap64_id (by omega) (by omega)]
    have := ih (acc ++ [q], i + 1) ⟨by dsimp only; omega, by simp; omega, fun hne => ?_⟩ (by dsimp only; omega)
    · simpa using this
    · dsimp only at hne ⊢
      rw [List.map_append, h5 (fun e he => hne e (List.mem_append_left _ he)), List.map_cons, List.map_nil, List.take_add_one, List.getElem?_eq_getElem (by rw [List.length_map]; omega)]
      congr 1
      simp only [Option.toList_some, List.cons.injEq, and_true]
      have hq0 : q ≠ 0 := hne q (by simp)
      have e1 : pb q = (rdOf ByteArray.empty t2 (i : Int)).data.toList := by
        cases hf : fpf (rdOf ByteArray.empty t2 (i : Int)).data.toList 73 24 with
        | none => rw [hf] at hq; exact absurd hq hq0
        | some x =>
          rw [hf] at hq
          simp only [Option.getD_some] at hq
          unfold pb
          rw [hq]
          exact (fpf_some _ _ _ _ hf).2.2
      rw [e1, hw, List.getD_eq_getElem?_getD, List.getElem?_eq_getElem (by rw [List.length_map]; omega)]
      rfl
  · obtain rfl : i = n := by omega
    refine tbind (isInstrument_tot acc m.1 (by omega)) (fun b hb => ?_)
    refine tite (fun c2 => ?_) (fun _ => tsome rfl)
    have hg := hb.1 c2
    have h6 := h5 (fun x hx => by have := in_mem acc m.1 hg x hx; omega)
    refine absurd ?_ (hno acc m.1 hg)
    unfold inB inW
    rw [hp, h6, d2, Int.toNat_natCast, decText_bytes, can_dec _ d1, hlast]
    have e2 : (t2.map (·.data.toList)).take i ++ [(t2.map (·.data.toList)).getD i []] = t2.map (·.data.toList) := by
      rw [List.getD_eq_getElem?_getD, List.getElem?_eq_getElem (by rw [List.length_map]; omega), Option.getD_some]
      have := List.take_add_one (l := t2.map (·.data.toList)) (i := i)
      rw [List.getElem?_eq_getElem (by rw [List.length_map]; omega)] at this
      simp only [Option.toList_some] at this
      rw [← this, List.take_of_length_le (by rw [List.length_map]; omega)]
    rw [e2, ht2, sp_join]
theorem parseInstrument_agree (s : ByteArray) (hs : s.size ≤ 1048576) : ∃ r, Tot (fun k => spec_ParseInstrument.f k s) (fun y => y = r) ∧ Tot (fun k => impl_ParseInstrument.f k s) (fun y => y = r) ∧ r.1.length ≤ 1048576 := by
  by_cases h : ∃ (l : List Int) (a : Int), InGood l a ∧ inB l a = s.data.toList
  · obtain ⟨l, a, hg, he⟩ := h
    exact ⟨(l, a, true), specPI_hit s hs l a hg he, implPI_hit s l a hg he, by have := hg.2; dsimp only; omega⟩
  · have hno : ∀ (l : List Int) (a : Int), InGood l a → inB l a ≠ s.data.toList := fun l a hg he => h ⟨l, a, hg, he⟩
    exact ⟨([], 0, false), specPI_miss s hs hno, implPI_miss s hs hno, Nat.zero_le _⟩


theorem FnExactParseInstrument (a0 : ByteArray) (w0 : a0.size ≤ 140737488351232) : ∃ k, laws_FnExactParseInstrument.f k a0 = some true := by
  refine rounds ?_
  unfold laws_FnExactParseInstrument.f
  by_cases hl0 : (a0.size : Int) > 1048576
  · simp only [if_pos hl0]; exact tsome rfl
  simp only [if_neg hl0]
  obtain ⟨r, hS, hI, hR⟩ := parseInstrument_agree a0 (by omega)
  repeat first
    | exact tsome rfl
    | (refine tbind hS (fun _ e => ?_); subst e)
    | (refine tbind hI (fun _ e => ?_); subst e)
    | (refine tbind (eqInstrument _ _ (by first | assumption | omega | (dsimp only; omega) | (simp; omega))) (fun _ e => ?_); subst e)
    | (refine tbind (heldInstrument 1 _ _ (by first | omega | (simp; omega)) (by omega) (by omega)) (fun _ e => ?_); subst e)
    | (refine tbind (markInstrument _ _ _ (by first | omega | (simp; omega)) (by first | omega | (dsimp only; omega)) (by first | omega | (dsimp only; omega))) (fun _ e => ?_); subst e)
    | refine tpos rfl ?_
    | refine tneg (by dsimp only; omega) ?_
    | refine tneg (by omega) ?_
    | refine tneg (by simp; done) ?_
    | refine tpos (by dsimp only) ?_
    | (refine tstep ?_; simp only [laws_FnExactParseInstrument.j0])
    | (refine tstep ?_; simp only [laws_FnExactParseInstrument.j1])
end Go.Proofs.YtgeipgflhjakjaaDoor.Pure
