/- The plain side of the law FnInstruments: lists and numbers alone. -/
import Derived.Test.YtpkklbjdhmpjnaaGreatDoorPFnInstrumentsx15
import Derived.Test.YtpkklbjdhmpjnaaGreatDoorGlue
import Derived.Test.YtpkklbjdhmpjnaaGreatDoorTot
import Derived.Laws.Bits64b
import Derived.Lib.Join
import Derived.Lib.IndexMore
set_option linter.unusedVariables false
set_option linter.unusedSimpArgs false
namespace Go.Proofs.YtpkklbjdhmpjnaaGreatDoor.Pure
open Go.RowKit Go.Proofs.YtpkklbjdhmpjnaaGreatDoor.PFnInstruments Go.Proofs.YtpkklbjdhmpjnaaGreatDoorW.PrintWords Go.Proofs.YtpkklbjdhmpjnaaGreatDoorW.PrintMore Go.Proofs.YtpkklbjdhmpjnaaGreatDoor.Tot

theorem l1In_eq (a b c : Int) : spec_l1In.f a b c = some (decide (b ≤ a ∧ a ≤ c)) := by
  unfold spec_l1In.f
  by_cases h : b ≤ a <;> simp [h]
theorem isPitch_eq (a : Int) : impl_isPitch.f a = some (decide (24 ≤ a ∧ a ≤ 96)) := by
  unfold impl_isPitch.f
  by_cases h : 24 ≤ a <;> simp [h]
def InC (l : List Int) (j : Int) : Prop := 24 ≤ rd l j ∧ rd l j ≤ 96 ∧ (0 < j → rd l (j - 1) < rd l j)
def InGood (l : List Int) (a : Int) : Prop := (∀ j : Int, 0 ≤ j → j < (l.length : Int) → InC l j) ∧ (1 ≤ (l.length : Int) ∧ (l.length : Int) ≤ 20 ∧ 1 ≤ a ∧ a ≤ 20)
theorem l1Rising_tot (l : List Int) (hl : l.length ≤ 1048576) : Tot (fun k => spec_l1Rising.f k l 24 96) (fun b => (b = true) ↔ ((∀ j : Int, 0 ≤ j → j < (l.length : Int) → InC l j) ∧ True)) := by
  unfold spec_l1Rising.f
  refine trec (σ := Int) (fun i k => spec_l1Rising.l0 k l 24 96 l (l.length : Int) i) (fun i => ((l.length : Int) - i).toNat) (fun i => 0 ≤ i ∧ i ≤ (l.length : Int))
    (fun i b => (b = true) ↔ ((∀ j : Int, i ≤ j → j < (l.length : Int) → InC l j) ∧ True)) ?_ 0 ⟨Int.le_refl _, by omega⟩
  rintro i ⟨h0, h1⟩ ih
  simp only [spec_l1Rising.l0, l1In_eq, Option.bind_some, decide_eq_true_eq]
  simp only [show wrap64 (i + 1) = i + 1 from wrap64_id (by omega) (by omega), show wrap64 (i - 1) = i - 1 from wrap64_id (by omega) (by omega)]
  repeat' (refine tite (fun _ => ?_) (fun _ => ?_))
  all_goals first
    | (exfalso; omega)
    | exact tsome (all_no (by omega) (by unfold InC; omega))
    | exact tmono (ih (i + 1) ⟨by omega, by omega⟩ (by (try dsimp only); omega)) (fun b hb => all_go (by omega) (by unfold InC; omega) hb)
    | exact tsome (all_end (by omega) (by simp))
theorem inGood_tot (l : List Int) (a : Int) (hl : l.length ≤ 1048576) : Tot (fun k => spec_inGood.f k l a) (fun b => (b = true) ↔ InGood l a) := by
  unfold spec_inGood.f
  simp only [l1In_eq, Option.bind_some, decide_eq_true_eq]
  refine tite (fun c => ?_) (fun c => tsome ⟨(fun h => by simp at h), (fun h => by have := h.2; omega)⟩)
  refine tbind (l1Rising_tot l hl) (fun b hb => ?_)
  refine tite (fun c2 => ?_) (fun c2 => tsome ⟨(fun h => by simp at h), (fun h => absurd (hb.2 ⟨h.1, trivial⟩) c2)⟩)
  refine tsome ?_
  have := (hb.1 c2).1
  unfold InGood
  simp only [decide_eq_true_eq]
  exact ⟨fun h => ⟨this, by omega⟩, fun h => by omega⟩
theorem isInstrument_tot (l : List Int) (a : Int) (hl : l.length ≤ 1048576) : Tot (fun k => impl_IsInstrument.f k l a) (fun b => (b = true) ↔ InGood l a) := by
  have key : 1 ≤ (l.length : Int) → (l.length : Int) ≤ 20 → 1 ≤ a → a ≤ 20 → Tot (fun k => impl_IsInstrument.l0 k l (l.length : Int) 0 l a) (fun b => (b = true) ↔ InGood l a) := by
    intro g1 g2 g3 g4
    refine tmono (trec (σ := Int) (fun i k => impl_IsInstrument.l0 k l (l.length : Int) i l a) (fun i => ((l.length : Int) - i).toNat) (fun i => 0 ≤ i ∧ i ≤ (l.length : Int))
      (fun i b => (b = true) ↔ ((∀ j : Int, i ≤ j → j < (l.length : Int) → InC l j) ∧ True)) ?_ 0 ⟨Int.le_refl _, by omega⟩) (fun b hb => ?_)
    · rintro i ⟨h0, h1⟩ ih
      simp only [impl_IsInstrument.l0, isPitch_eq, Option.bind_some, decide_eq_true_eq]
      simp only [show wrap64 (i + 1) = i + 1 from wrap64_id (by omega) (by omega), show wrap64 (i - 1) = i - 1 from wrap64_id (by omega) (by omega)]
      repeat' (refine tite (fun _ => ?_) (fun _ => ?_))
      all_goals first
        | (exfalso; omega)
        | exact tsome (all_no (by omega) (by unfold InC; omega))
        | exact tmono (ih (i + 1) ⟨by omega, by omega⟩ (by (try dsimp only); omega)) (fun b hb => all_go (by omega) (by unfold InC; omega) hb)
        | exact tsome (all_end (by omega) (by simp))
    · rw [hb]; unfold InGood
      exact ⟨fun h => ⟨h.1, g1, g2, g3, g4⟩, fun h => ⟨h.1, trivial⟩⟩
  have no : ¬ InGood l a → Tot (fun k => impl_IsInstrument.j0 k true l a) (fun b => (b = true) ↔ InGood l a) := by
    intro hn
    refine tstep ?_
    simp only [impl_IsInstrument.j0, if_true]
    exact tsome ⟨(fun h => by simp at h), (fun h => absurd h hn)⟩
  unfold impl_IsInstrument.f
  refine tite (fun c => no (fun h => by have := h.2; omega)) (fun c1 => ?_)
  refine tite (fun c => no (fun h => by have := h.2; omega)) (fun c2 => ?_)
  refine tite (fun c => no (fun h => by have := h.2; omega)) (fun c3 => ?_)
  by_cases h : a > 20
  · rw [decide_eq_true h]
    exact no (fun h => by have := h.2; omega)
  · rw [decide_eq_false h]
    refine tstep ?_
    simp only [impl_IsInstrument.j0]
    exact tneg (by simp) (key (by omega) (by omega) (by omega) (by omega))
theorem ntPitch_eq (a : Int) : spec_ntPitch.f a = some (decide (24 ≤ a ∧ a ≤ 96)) := by
  unfold spec_ntPitch.f
  simp only [l1In_eq, Option.bind_some]
def Idx (l : List Int) (x i r : Int) : Prop := (r = -1 ∧ ∀ j : Int, i ≤ j → j < (l.length : Int) → rd l j ≠ x) ∨ (i ≤ r ∧ r < (l.length : Int) ∧ rd l r = x ∧ ∀ j : Int, i ≤ j → j < r → rd l j ≠ x)
theorem Idx.go {l : List Int} {x i r : Int} (hx : rd l i ≠ x) (h : Idx l x (i + 1) r) : Idx l x i r := by
  rcases h with ⟨e, h⟩ | ⟨a, b, c, h⟩
  · refine .inl ⟨e, fun j j0 j1 => ?_⟩
    by_cases e : j = i
    · rw [e]; exact hx
    · exact h j (by omega) j1
  · refine .inr ⟨by omega, b, c, fun j j0 j1 => ?_⟩
    by_cases e : j = i
    · rw [e]; exact hx
    · exact h j (by omega) j1
theorem Idx.det {l : List Int} {x r r' : Int} (h : Idx l x 0 r) (h' : Idx l x 0 r') : r = r' := by
  rcases h with ⟨e, h⟩ | ⟨a, b, c, h⟩ <;> rcases h' with ⟨e', h'⟩ | ⟨a', b', c', h'⟩
  · omega
  · exact absurd c' (h r' a' b')
  · exact absurd c (h' r a b)
  · rcases Int.lt_trichotomy r r' with g | g | g
    · exact absurd c (h' r a g)
    · exact g
    · exact absurd c' (h r' a' g)
theorem inTrack_tot (l : List Int) (a x : Int) (hl : l.length ≤ 1048576) : Tot (fun k => spec_inTrack.f k l a x) (fun r => Idx l x 0 r) := by
  unfold spec_inTrack.f
  refine trec (σ := Int) (fun i k => spec_inTrack.l0 k x l (l.length : Int) i) (fun i => ((l.length : Int) - i).toNat) (fun i => 0 ≤ i ∧ i ≤ (l.length : Int)) (fun i r => Idx l x i r) ?_ 0 ⟨Int.le_refl _, by omega⟩
  rintro i ⟨h0, h1⟩ ih
  simp only [spec_inTrack.l0]
  refine tite (fun c => ?_) (fun c => tsome (.inl ⟨rfl, fun j j0 j1 => by omega⟩))
  refine tpos h0 (tpos c ?_)
  refine tite (fun c2 => tsome (.inr ⟨Int.le_refl _, c, c2, fun j j0 j1 => by omega⟩)) (fun c2 => ?_)
  rw [wrap64_id (by omega) (by omega)]
  exact tmono (ih (i + 1) ⟨by omega, by omega⟩ (by (try dsimp only); omega)) (fun r hr => hr.go c2)
theorem slicesIndex_tot (l : List Int) (x : Int) (hl : l.length ≤ 1048576) : Tot (fun k => slices_Index_int_int.f k l x) (fun r => Idx l x 0 r) := by
  unfold slices_Index_int_int.f
  refine trec (σ := Int) (fun i k => slices_Index_int_int.l0 k l x (l.length : Int) i) (fun i => ((l.length : Int) - i).toNat) (fun i => 0 ≤ i ∧ i ≤ (l.length : Int)) (fun i r => Idx l x i r) ?_ 0 ⟨Int.le_refl _, by omega⟩
  rintro i ⟨h0, h1⟩ ih
  simp only [slices_Index_int_int.l0]
  refine tite (fun c => ?_) (fun c => tsome (.inl ⟨rfl, fun j j0 j1 => by omega⟩))
  refine tpos h0 (tpos c ?_)
  refine tite (fun c2 => tsome (.inr ⟨Int.le_refl _, c, c2.symm, fun j j0 j1 => by omega⟩)) (fun c2 => ?_)
  rw [wrap64_id (by omega) (by omega)]
  exact tmono (ih (i + 1) ⟨by omega, by omega⟩ (by (try dsimp only); omega)) (fun r hr => hr.go (fun e => c2 e.symm))
theorem l1Most_eq (a b : Int) : spec_l1Most.f a b = some (mx a b) := by
  unfold spec_l1Most.f mx
  by_cases h : a > b
  · rw [if_pos h, if_neg (by omega)]
  · rw [if_neg h]
    by_cases h2 : a < b
    · rw [if_pos h2]
    · rw [if_neg h2]
      congr 1; omega
theorem Idx.pos {l : List Int} {x r : Int} (h : Idx l x 0 r) : 0 ≤ r ↔ x ∈ l := by
  constructor
  · intro h0
    rcases h with ⟨e, _⟩ | ⟨a, b, c, _⟩
    · omega
    · rw [← c]; exact ld_mem r b a
  · intro hx
    rcases h with ⟨e, h⟩ | ⟨a, b, c, _⟩
    · obtain ⟨i, hi, e2⟩ := List.getElem_of_mem hx
      have := h (i : Int) (by omega) (by omega)
      unfold rd at this
      simp [List.getD, hi, e2] at this
    · omega
theorem contains_tot (l : List Int) (x : Int) (hl : l.length ≤ 1048576) : Tot (fun k => slices_Contains_int_int.f k l x) (fun b => (b = true) ↔ x ∈ l) := by
  unfold slices_Contains_int_int.f
  exact tbind (slicesIndex_tot l x hl) (fun r hr => tsome (by rw [decide_eq_true_eq]; exact hr.pos))
def comUpto (a b : List Int) : Nat → List Int
  | 0 => []
  | i + 1 => if rd a i ∈ b then comUpto a b i ++ [rd a i] else comUpto a b i
theorem comUpto_len (a b : List Int) (i : Nat) : (comUpto a b i).length ≤ i := by
  induction i with
  | zero => simp [comUpto]
  | succ i ih => unfold comUpto; split <;> (try simp) <;> omega
theorem specCommon_tot (a b : List Int) (y : Int) (ha : a.length ≤ 1048576) (hb : b.length ≤ 1048576) : Tot (fun k => spec_CommonPitches.l0 k [] a (a.length : Int) 0 b y) (fun r => r = (comUpto a b a.length, true)) := by
  refine trec (σ := Nat) (fun i k => spec_CommonPitches.l0 k (comUpto a b i) a (a.length : Int) (i : Int) b y) (fun i => a.length - i) (fun i => i ≤ a.length) (fun _ r => r = (comUpto a b a.length, true)) ?_ 0 (Nat.zero_le _)
  intro i hi ih
  simp only [spec_CommonPitches.l0, wrap64_id (x := (i : Int) + 1) (by omega) (by omega)]
  refine tite (fun c => ?_) (fun c => tsome (by rw [show i = a.length by omega]))
  refine tpos (by omega) (tpos c ?_)
  have hlen := comUpto_len a b i
  have go : ∀ o, o = comUpto a b (i + 1) → Tot (fun k => spec_CommonPitches.l0 k o a (a.length : Int) ((i : Int) + 1) b y) (fun r => r = (comUpto a b a.length, true)) := fun o e => by
    rw [e]
    have := ih (i + 1) (by omega) (by omega)
    simpa using this
  refine tbind (inTrack_tot b y _ hb) (fun r hr => ?_)
  exact tite (fun c2 => tpos (by omega) (go _ (by conv => rhs; unfold comUpto; rw [if_pos (hr.pos.1 c2)]))) (fun c2 => go _ (by conv => rhs; unfold comUpto; rw [if_neg (fun h => c2 (hr.pos.2 h))]))
theorem implCommon_tot (a b : List Int) (y : Int) (ha : a.length ≤ 1048576) (hb : b.length ≤ 1048576) : Tot (fun k => impl_CommonPitches.l0 k [] a (a.length : Int) 0 b y) (fun r => r = (comUpto a b a.length, true)) := by
  refine trec (σ := Nat) (fun i k => impl_CommonPitches.l0 k (comUpto a b i) a (a.length : Int) (i : Int) b y) (fun i => a.length - i) (fun i => i ≤ a.length) (fun _ r => r = (comUpto a b a.length, true)) ?_ 0 (Nat.zero_le _)
  intro i hi ih
  simp only [impl_CommonPitches.l0, wrap64_id (x := (i : Int) + 1) (by omega) (by omega)]
  refine tite (fun c => ?_) (fun c => tsome (by rw [show i = a.length by omega]))
  refine tpos (by omega) (tpos c ?_)
  have hlen := comUpto_len a b i
  have go : ∀ o, o = comUpto a b (i + 1) → Tot (fun k => impl_CommonPitches.l0 k o a (a.length : Int) ((i : Int) + 1) b y) (fun r => r = (comUpto a b a.length, true)) := fun o e => by
    rw [e]
    have := ih (i + 1) (by omega) (by omega)
    simpa using this
  refine tbind (contains_tot b _ hb) (fun r hr => ?_)
  exact tite (fun c2 => tpos (by omega) (go _ (by conv => rhs; unfold comUpto; rw [if_pos (hr.1 c2)]))) (fun c2 => go _ (by conv => rhs; unfold comUpto; rw [if_neg (fun h => c2 (hr.2 h))]))
def putL (n : Int) : List Int → List Int
  | [] => [n]
  | x :: xs => if x < n then x :: putL n xs else if x = n then x :: xs else n :: x :: xs
theorem putL_len (n : Int) (l : List Int) : 1 ≤ (putL n l).length ∧ (putL n l).length ≤ l.length + 1 := by
  induction l with
  | nil => simp [putL]
  | cons x xs ih =>
    unfold putL
    split
    · simp; omega
    · split <;> simp
theorem putL_at (n : Int) (l : List Int) (i : Nat) (hi : i ≤ l.length) (h : ∀ j : Nat, j < i → rd l j < n) : putL n l = l.take i ++ putL n (l.drop i) := by
  induction i generalizing l with
  | zero => simp
  | succ i ih =>
    match l, hi with
    | x :: xs, hi =>
      have h0 := h 0 (by omega)
      have h0' : x < n := by simpa [rd, List.getD] using h0
      have hr : ∀ j : Nat, j < i → rd xs j < n := fun j hj => by
        have := h (j + 1) (by omega)
        simpa [rd, List.getD] using this
      have := ih xs (by simpa using hi) hr
      conv => lhs; unfold putL
      rw [if_pos h0', this]
      simp
theorem l1Put_tot (l : List Int) (n : Int) (hl : l.length ≤ 1048576) : Tot (fun k => spec_l1Put.f k l n) (fun r => r = putL n l) := by
  unfold spec_l1Put.f
  refine trec (σ := Nat) (fun i k => spec_l1Put.l0 k l n (i : Int)) (fun i => l.length - i) (fun i => i ≤ l.length ∧ ∀ j : Nat, j < i → rd l j < n) (fun _ r => r = putL n l) ?_ 0 ⟨Nat.zero_le _, fun j hj => by omega⟩
  rintro i ⟨hi, hp⟩ ih
  have hput := putL_at n l i hi hp
  simp only [spec_l1Put.l0, Option.bind_some, Int.toNat_natCast, List.nil_append, wrap64_id (x := (i : Int) + 1) (by omega) (by omega)]
  refine tite (fun c => ?_) (fun c => ?_)
  · have hlt : i < l.length := by omega
    have hd : l.drop i = rd l i :: l.drop (i + 1) := by
      rw [List.drop_eq_getElem_cons hlt]
      simp [rd, List.getD, hlt]
    refine tpos (by omega) ?_
    refine tite (fun c2 => ?_) (fun c2 => ?_)
    · have := ih (i + 1) ⟨by omega, fun j hj => by
        by_cases e : j = i
        · rw [e]; exact c2
        · exact hp j (by omega)⟩ (by omega)
      simpa using this
    · have e1 : putL n (l.drop i) = if rd l i = n then l.drop i else n :: l.drop i := by
        rw [hd]
        conv => lhs; unfold putL
        rw [if_neg c2]
      refine tite (fun c3 => tsome (by rw [hput, e1, if_pos c3, List.take_append_drop])) (fun c3 => ?_)
      refine tpos (by omega) (tpos (by simp; omega) (tpos (by simp; omega) (tpos (by simp; omega) (tsome ?_))))
      rw [hput, e1, if_neg c3, List.append_assoc]
      rfl
  · obtain rfl : i = l.length := by omega
    refine tpos (by omega) (tpos (by omega) (tpos (by simp; omega) (tpos (by simp; omega) (tpos (by simp; omega) (tsome ?_)))))
    rw [hput, List.append_assoc]
    simp [putL]
theorem Idx.neg {l : List Int} {x r : Int} (h : Idx l x 0 r) : r < 0 ↔ ¬ x ∈ l := by
  have h1 : 0 ≤ r ↔ x ∈ l := by
    constructor
    · intro h0
      rcases h with ⟨e, _⟩ | ⟨a, b, c, _⟩
      · omega
      · rw [← c]; exact ld_mem r b a
    · intro hx
      rcases h with ⟨e, h⟩ | ⟨a, b, c, _⟩
      · obtain ⟨i, hi, e2⟩ := List.getElem_of_mem hx
        have := h (i : Int) (by omega) (by omega)
        unfold rd at this
        simp [List.getD, hi, e2] at this
      · omega
  rw [← h1]
  omega
theorem tlet {α β : Type} {v : α} {g : Nat → α → Option β} {Q : β → Prop} (h : Tot (fun k => g k v) Q) : Tot (fun k => (some v).bind fun y => g k y) Q := h
theorem mem_putL (n y : Int) (l : List Int) : y ∈ putL n l ↔ y = n ∨ y ∈ l := by
  induction l with
  | nil => simp [putL]
  | cons x xs ih =>
    unfold putL
    split
    · rw [List.mem_cons, ih, List.mem_cons]; constructor <;> (intro h; rcases h with h | h | h <;> simp [h])
    · split
      · rename_i e; rw [List.mem_cons]; constructor
        · intro h; exact .inr h
        · intro h; rcases h with h | h
          · exact .inl (by rw [h, e])
          · exact h
      · rw [List.mem_cons]
theorem putL_sorted (n : Int) (l : List Int) (h : l.Pairwise (· < ·)) : (putL n l).Pairwise (· < ·) := by
  induction l with
  | nil => simp [putL]
  | cons x xs ih =>
    rw [List.pairwise_cons] at h
    unfold putL
    split
    · rename_i c
      rw [List.pairwise_cons]
      refine ⟨fun y hy => ?_, ih h.2⟩
      rcases (mem_putL n y xs).1 hy with e | e
      · rw [e]; exact c
      · exact h.1 y e
    · split
      · exact List.pairwise_cons.2 h
      · refine List.pairwise_cons.2 ⟨fun y hy => ?_, List.pairwise_cons.2 h⟩
        rcases List.mem_cons.1 hy with e | e
        · rw [e]; omega
        · have := h.1 y e; omega
def putAll (l : List Int) : List Int := l.foldl (fun acc x => putL x acc) []
theorem putAll_append (l : List Int) (x : Int) : putAll (l ++ [x]) = putL x (putAll l) := by
  unfold putAll
  rw [List.foldl_append]
  rfl
theorem putAll_sorted (l : List Int) : (putAll l).Pairwise (· < ·) := by
  unfold putAll
  suffices h : ∀ (l acc : List Int), acc.Pairwise (· < ·) → (l.foldl (fun acc x => putL x acc) acc).Pairwise (· < ·) from h l [] List.Pairwise.nil
  intro l
  induction l with
  | nil => intro acc h; exact h
  | cons x xs ih => intro acc h; exact ih _ (putL_sorted x acc h)
theorem putAll_mem (l : List Int) (y : Int) : y ∈ putAll l ↔ y ∈ l := by
  unfold putAll
  suffices h : ∀ (l acc : List Int), y ∈ l.foldl (fun acc x => putL x acc) acc ↔ y ∈ l ∨ y ∈ acc from (h l []).trans (by simp)
  intro l
  induction l with
  | nil => intro acc; simp
  | cons x xs ih =>
    intro acc
    rw [List.foldl_cons, ih, mem_putL, List.mem_cons]
    constructor
    · rintro (h | h | h)
      · exact .inl (.inr h)
      · exact .inl (.inl h)
      · exact .inr h
    · rintro ((h | h) | h)
      · exact .inr (.inl h)
      · exact .inl h
      · exact .inr (.inr h)
theorem sorted_unique (l m : List Int) (h1 : l.Pairwise (· ≤ ·)) (h2 : m.Pairwise (· ≤ ·)) (h : l.Perm m) : l = m :=
  List.Perm.eq_of_pairwise (fun a b _ _ x y => Int.le_antisymm x y) h1 h2 h
theorem sortI_sorted (l : List Int) : (l.mergeSort fun x y => decide (x ≤ y)).Pairwise (· ≤ ·) := by
  have := List.pairwise_mergeSort (le := fun x y : Int => decide (x ≤ y)) (fun a b c => by simp only [decide_eq_true_eq]; omega) (fun a b => by simp only [Bool.or_eq_true, decide_eq_true_eq]; omega) l
  exact this.imp (fun h => by simpa using h)
theorem sort_Ints_eq (l : List Int) (h : l.length ≤ 1048576) : sort_Ints.f l = some (l.mergeSort fun x y => decide (x ≤ y)) := by
  unfold sort_Ints.f
  rw [if_pos (Nat.lt_of_le_of_lt h (by decide))]
theorem clone_int_eq (l : List Int) (hl : l.length ≤ 1048576) : clone_int.f l = some l := by
  unfold clone_int.f
  rw [Option.bind_some, List.nil_append, if_pos (by rw [List.length_nil]; omega)]
theorem compact_props (d : Array Int) (h : ∀ i j : Nat, i < j → j < d.size → d[i]! ≤ d[j]!) (m : Nat) (hm : m ≤ d.size) : (Lib.compactUpTo d m).Pairwise (· < ·) ∧ ∀ y, y ∈ Lib.compactUpTo d m ↔ ∃ j, j < m ∧ d[j]! = y := by
  induction m with
  | zero => exact ⟨by simp [Lib.compactUpTo], fun y => by simp [Lib.compactUpTo]⟩
  | succ m ih =>
    obtain ⟨h1, h2⟩ := ih (by omega)
    rw [Lib.compactUpTo_succ]
    by_cases hk : Lib.keeps d m = true
    · rw [if_pos hk]
      have hk2 : m = 0 ∨ d[m]! ≠ d[m - 1]! := by unfold Lib.keeps at hk; exact of_decide_eq_true hk
      refine ⟨List.pairwise_append.2 ⟨h1, by simp, fun a ha b hb => ?_⟩, fun y => ?_⟩
      · obtain ⟨j, hj, e⟩ := (h2 a).1 ha
        have hb' := List.mem_singleton.1 hb
        rcases hk2 with hk2 | hk2
        · omega
        · have g1 : d[m - 1]! ≤ d[m]! := h (m - 1) m (by omega) (by omega)
          have g2 : d[j]! ≤ d[m - 1]! := by
            by_cases e2 : j = m - 1
            · rw [e2]; exact Int.le_refl _
            · exact h j (m - 1) (by omega) (by omega)
          rw [hb', ← e]
          omega
      · rw [List.mem_append, h2, List.mem_singleton]
        constructor
        · rintro (⟨j, hj, e⟩ | e)
          · exact ⟨j, by omega, e⟩
          · exact ⟨m, by omega, e.symm⟩
        · rintro ⟨j, hj, e⟩
          by_cases e2 : j = m
          · exact .inr (by rw [← e, e2])
          · exact .inl ⟨j, by omega, e⟩
    · rw [if_neg hk, List.append_nil]
      have hk2 : m ≠ 0 ∧ d[m]! = d[m - 1]! := by
        unfold Lib.keeps at hk
        have := fun hh => hk (decide_eq_true hh)
        exact ⟨fun e => this (.inl e), Classical.byContradiction fun e => this (.inr e)⟩
      refine ⟨h1, fun y => ?_⟩
      rw [h2]
      constructor
      · rintro ⟨j, hj, e⟩; exact ⟨j, by omega, e⟩
      · rintro ⟨j, hj, e⟩
        by_cases e2 : j = m
        · exact ⟨m - 1, by omega, by rw [← hk2.2, ← e2, e]⟩
        · exact ⟨j, by omega, e⟩
theorem strict_unique (l m : List Int) (h1 : l.Pairwise (· < ·)) (h2 : m.Pairwise (· < ·)) (h : ∀ y, y ∈ l ↔ y ∈ m) : l = m := by
  have n1 : l.Nodup := h1.imp (fun h => by omega)
  have n2 : m.Nodup := h2.imp (fun h => by omega)
  exact sorted_unique l m (h1.imp (fun h => Int.le_of_lt h)) (h2.imp (fun h => Int.le_of_lt h)) ((List.perm_ext_iff_of_nodup n1 n2).2 h)
theorem compact_sortI (l : List Int) : Lib.compact (l.mergeSort fun x y => decide (x ≤ y)) = putAll l := by
  obtain ⟨s, hs⟩ : ∃ s, s = l.mergeSort fun x y => decide (x ≤ y) := ⟨_, rfl⟩
  have hsort := sortI_sorted l
  have hmem : ∀ y, y ∈ s ↔ y ∈ l := fun y => by rw [hs]; exact (List.mergeSort_perm l _).mem_iff
  rw [← hs] at hsort ⊢
  have at_ : ∀ j, (h : j < s.length) → s.toArray[j]! = s[j] := fun j h => by simp [h]
  have hp := compact_props s.toArray (fun i j hij hj => by
    have hj' : j < s.length := by simpa using hj
    rw [at_ i (by omega), at_ j hj']
    exact List.pairwise_iff_getElem.1 hsort i j (by omega) hj' hij) s.length (by simp)
  refine strict_unique _ _ hp.1 (putAll_sorted l) (fun y => ?_)
  rw [putAll_mem, ← hmem]
  refine (hp.2 y).trans ?_
  rw [List.mem_iff_getElem]
  constructor
  · rintro ⟨j, hj, e⟩; exact ⟨j, hj, by rw [← at_ j hj, e]⟩
  · rintro ⟨j, hj, e⟩; exact ⟨j, hj, by rw [at_ j hj, e]⟩
theorem sortedSet_eq (l : List Int) (hl : l.length ≤ 1048576) : impl_sortedSet.f l = some (putAll l) := by
  have h2 : (l.mergeSort fun x y => decide (x ≤ y)).length = l.length := List.length_mergeSort _
  unfold impl_sortedSet.f
  rw [clone_int_eq l hl, Option.bind_some, sort_Ints_eq l hl, Option.bind_some]
  unfold compact_int.f
  rw [if_pos (by omega), Option.bind_some, compact_sortI]
theorem putAll_strict (l : List Int) (h : l.Pairwise (· < ·)) : putAll l = l := strict_unique _ _ (putAll_sorted l) h (putAll_mem l)
theorem inGood_strict (l : List Int) (a : Int) (h : InGood l a) : l.Pairwise (· < ·) := by
  have key : ∀ (d : Nat) (i : Nat), i + d + 1 < l.length → rd l i < rd l ((i + d + 1 : Nat) : Int) := by
    intro d
    induction d with
    | zero =>
      intro i hi
      have := (h.1 ((i + 1 : Nat) : Int) (by omega) (by omega)).2.2 (by omega)
      rwa [show ((i + 1 : Nat) : Int) - 1 = (i : Int) by omega] at this
    | succ d ih =>
      intro i hi
      have h1 := ih i (by omega)
      have h2 := (h.1 ((i + (d + 1) + 1 : Nat) : Int) (by omega) (by omega)).2.2 (by omega)
      rw [show ((i + (d + 1) + 1 : Nat) : Int) - 1 = ((i + d + 1 : Nat) : Int) by omega] at h2
      omega
  refine List.pairwise_iff_getElem.2 (fun i j hi hj hij => ?_)
  have := key (j - i - 1) i (by omega)
  rw [show i + (j - i - 1) + 1 = j by omega] at this
  simpa [rd, List.getD, hi, hj] using this
theorem l1Own_eq (l : List Int) (hl : l.length ≤ 1048576) : spec_l1Own.f l = some l := by
  unfold spec_l1Own.f
  rw [Option.bind_some, List.nil_append, if_pos (by rw [List.length_nil]; omega)]
theorem isPitchA_eq (a : Int) : impl_isPitch.f a = some (decide (24 ≤ a ∧ a ≤ 96)) := by
  unfold impl_isPitch.f
  by_cases h : 24 ≤ a <;> simp [h]
def decText (n : Nat) : ByteArray := ⟨(Lib.decDigits n).toArray⟩
theorem decText_small (u : Nat) (h : u < 10) : decText u = strOfNums ([(wrap64 (48 + (u : Int))) % 256] : List Int) := by
  unfold decText Lib.decDigits strOfNums
  rw [dif_pos h]
  have e : (wrap64 (48 + (u : Int))) % 256 = ((48 + u : Nat) : Int) := by unfold wrap64; omega
  rw [e]
  rfl
theorem decText_big (u : Nat) (h : ¬ u < 10) (h2 : u < 1000000000) : decText u = decText (u / 10) ++ strOfNums ([(wrap64 (48 + ((u % 10 : Nat) : Int))) % 256] : List Int) := by
  have e : (wrap64 (48 + ((u % 10 : Nat) : Int))) % 256 = ((48 + u % 10 : Nat) : Int) := by unfold wrap64; omega
  rw [e]
  have e1 : Lib.decDigits u = Lib.decDigits (u / 10) ++ [UInt8.ofNat (48 + u % 10)] := by
    conv => lhs; unfold Lib.decDigits
    rw [dif_neg h]
  unfold decText strOfNums
  rw [e1]
  apply ByteArray.ext
  simp
  rw [show (48 + (u : Int) % 10).toNat = 48 + u % 10 by omega, UInt8.ofNat_add]
  rfl
theorem decText_size (u : Nat) (h : u < 1000000000) : (decText u).size ≤ 9 ∧ 1 ≤ (decText u).size := by
  have key : ∀ (d u : Nat), u < 10 ^ (d + 1) → d ≤ 8 → (decText u).size ≤ d + 1 ∧ 1 ≤ (decText u).size := by
    intro d
    induction d with
    | zero => intro u hu _; rw [decText_small u (by omega)]; exact ⟨Nat.le_refl _, Nat.le_refl _⟩
    | succ d ih =>
      intro u hu hd
      by_cases h10 : u < 10
      · rw [decText_small u h10]
        exact ⟨by show 1 ≤ _; omega, Nat.le_refl _⟩
      · have hlt : u < 1000000000 := Nat.lt_of_lt_of_le hu (Nat.pow_le_pow_right (by omega) (show d + 1 + 1 ≤ 9 by omega))
        rw [decText_big u h10 hlt, ByteArray.size_append]
        have h1 := ih (u / 10) (by rw [Nat.pow_succ] at hu; omega) (by omega)
        have h2 : (strOfNums ([(wrap64 (48 + ((u % 10 : Nat) : Int))) % 256] : List Int)).size = 1 := rfl
        omega
  exact key 8 u (by omega) (by omega)
theorem l1Num_tot (u : Nat) (h : u < 1000000000) : Tot (fun k => spec_l1Num.f k (u : Int)) (fun r => r = decText u) := by
  induction u using Nat.strongRecOn with
  | ind u ih =>
    refine tstep ?_
    simp only [spec_l1Num.f]
    refine tite (fun c => tsome (decText_small u (by omega)).symm) (fun c => ?_)
    have e1 : wrap64 (Int.tdiv (u : Int) 10) = ((u / 10 : Nat) : Int) := by
      rw [Int.tdiv_eq_ediv_of_nonneg (by omega)]; unfold wrap64; omega
    have e2 : Int.tmod (u : Int) 10 = ((u % 10 : Nat) : Int) := by rw [Int.tmod_eq_emod_of_nonneg (by omega)]; omega
    rw [e1, e2]
    refine tbind (ih (u / 10) (by omega) (by omega)) (fun _ e => ?_); subst e
    show Tot (fun _ => if (decText (u / 10)).size + (strOfNums ([(wrap64 (48 + ((u % 10 : Nat) : Int))) % 256] : List Int)).size ≤ 9223372036854775807 then some (decText (u / 10) ++ strOfNums ([(wrap64 (48 + ((u % 10 : Nat) : Int))) % 256] : List Int)) else none) _
    have hs := (decText_size (u / 10) (by omega)).1
    have h2 : (strOfNums ([(wrap64 (48 + ((u % 10 : Nat) : Int))) % 256] : List Int)).size = 1 := rfl
    exact tpos (by omega) (tsome (decText_big u (by omega) h).symm)
def noteNames : List ByteArray := [(⟨#[99]⟩ : ByteArray), (⟨#[99, 35]⟩ : ByteArray), (⟨#[100]⟩ : ByteArray), (⟨#[100, 35]⟩ : ByteArray), (⟨#[101]⟩ : ByteArray), (⟨#[102]⟩ : ByteArray), (⟨#[102, 35]⟩ : ByteArray), (⟨#[103]⟩ : ByteArray), (⟨#[103, 35]⟩ : ByteArray), (⟨#[97]⟩ : ByteArray), (⟨#[97, 35]⟩ : ByteArray), (⟨#[98]⟩ : ByteArray)]
def pitchText (a : Int) : ByteArray := rdOf ByteArray.empty noteNames (a % 12) ++ decText (a / 12).toNat
theorem noteName_size (i : Int) (h0 : 0 ≤ i) (h1 : i < 12) : (rdOf ByteArray.empty noteNames i).size ≤ 2 ∧ 1 ≤ (rdOf ByteArray.empty noteNames i).size := by
  obtain rfl | rfl | rfl | rfl | rfl | rfl | rfl | rfl | rfl | rfl | rfl | rfl : i = 0 ∨ i = 1 ∨ i = 2 ∨ i = 3 ∨ i = 4 ∨ i = 5 ∨ i = 6 ∨ i = 7 ∨ i = 8 ∨ i = 9 ∨ i = 10 ∨ i = 11 := by omega
  all_goals decide
theorem pitchText_size (a : Int) (h0 : 24 ≤ a) (h1 : a ≤ 96) : (pitchText a).size ≤ 11 ∧ 1 ≤ (pitchText a).size := by
  unfold pitchText
  rw [ByteArray.size_append]
  have h := noteName_size (a % 12) (by omega) (by omega)
  have h2 := decText_size (a / 12).toNat (by omega)
  omega
theorem ntName_tot (a : Int) (h0 : 24 ≤ a) (h1 : a ≤ 96) : Tot (fun k => spec_ntName.f k a) (fun r => r = pitchText a) := by
  have e1 : wrap64 (Int.tdiv a 12) = (((a / 12).toNat : Nat) : Int) := by rw [Int.tdiv_eq_ediv_of_nonneg (by omega)]; unfold wrap64; omega
  have e2 : Int.tmod a 12 = a % 12 := Int.tmod_eq_emod_of_nonneg (by omega)
  unfold spec_ntName.f spec_ntNames.f
  simp only [e1, e2, Option.bind_some]
  refine tpos (by omega) (tpos (by simp; omega) ?_)
  refine tbind (l1Num_tot (a / 12).toNat (by omega)) (fun _ e => ?_); subst e
  have h := noteName_size (a % 12) (by omega) (by omega)
  have h2 := decText_size (a / 12).toNat (by omega)
  exact tpos (by unfold noteNames at h; omega) (tsome rfl)
theorem pitchName_eq (a : Int) (h0 : 24 ≤ a) (h1 : a ≤ 96) : impl_pitchName.f a = some (pitchText a) := by
  have e1 : wrap64 (Int.tdiv a 12) = (((a / 12).toNat : Nat) : Int) := by rw [Int.tdiv_eq_ediv_of_nonneg (by omega)]; unfold wrap64; omega
  have e2 : Int.tmod a 12 = a % 12 := Int.tmod_eq_emod_of_nonneg (by omega)
  unfold impl_pitchName.f itoa.f
  simp only [e1, e2, Option.bind_some]
  have h := noteName_size (a % 12) (by omega) (by omega)
  have h2 := decText_size (a / 12).toNat (by omega)
  unfold noteNames at h
  unfold decText at h2
  rw [if_pos (by omega), if_pos (by simp; omega), if_pos (by omega), if_pos (by omega)]
  simp only [Option.bind_some, Int.toNat_natCast]
  rw [if_pos (by omega)]
  rfl
def insUpto (l : List Int) : Nat → ByteArray
  | 0 => ⟨#[]⟩
  | i + 1 => insUpto l i ++ (pitchText (rd l i) ++ (⟨#[32]⟩ : ByteArray))
theorem space_size (x : ByteArray) : (x ++ (⟨#[32]⟩ : ByteArray)).size = x.size + 1 := by rw [ByteArray.size_append]; rfl
theorem insUpto_size (l : List Int) (a : Int) (hg : InGood l a) (i : Nat) (hi : i ≤ l.length) : (insUpto l i).size ≤ 12 * i := by
  induction i with
  | zero => exact Nat.le_refl _
  | succ i ih =>
    have := ih (by omega)
    have hc := hg.1 i (by omega) (by omega)
    have hp := (pitchText_size (rd l i) hc.1 hc.2.1).1
    unfold insUpto
    rw [ByteArray.size_append, space_size]
    omega
theorem inText_tot (l : List Int) (a : Int) (hg : InGood l a) : Tot (fun k => spec_inText.f k l a) (fun r => r = (insUpto l l.length ++ decText a.toNat) ++ (⟨#[10]⟩ : ByteArray)) := by
  have hn := hg.2
  unfold spec_inText.f
  refine trec (σ := Nat) (fun i k => spec_inText.l0 k (insUpto l i) l (l.length : Int) (i : Int) l a) (fun i => l.length - i) (fun i => i ≤ l.length) (fun _ r => r = (insUpto l l.length ++ decText a.toNat) ++ (⟨#[10]⟩ : ByteArray)) ?_ 0 (Nat.zero_le _)
  intro i hi ih
  have hsz := insUpto_size l a hg i hi
  simp only [spec_inText.l0, wrap64_id (x := (i : Int) + 1) (by omega) (by omega)]
  refine tite (fun c => ?_) (fun c => ?_)
  · have hc := hg.1 i (by omega) c
    have hp := (pitchText_size (rd l i) hc.1 hc.2.1).1
    refine tpos (by omega) (tpos c ?_)
    refine tbind (ntName_tot (rd l i) hc.1 hc.2.1) (fun _ e => ?_); subst e
    refine tpos (by omega) (tpos (by rw [space_size]; omega) ?_)
    have h := ih (i + 1) (by omega) (by omega)
    simpa [insUpto] using h
  · obtain rfl : i = l.length := by omega
    obtain ⟨m, rfl⟩ := Int.eq_ofNat_of_zero_le (show 0 ≤ a by omega)
    have hd := (decText_size m (by omega)).1
    refine tbind (l1Num_tot m (by omega)) (fun _ e => ?_); subst e
    exact tpos (by omega) (tpos (by rw [ByteArray.size_append]; omega) (tsome rfl))
theorem instrumentText_tot (l : List Int) (a : Int) (hg : InGood l a) : Tot (fun k => impl_instrumentText.f k l a) (fun r => r = (insUpto l l.length ++ decText a.toNat) ++ (⟨#[10]⟩ : ByteArray)) := by
  have hn := hg.2
  unfold impl_instrumentText.f
  refine trec (σ := Nat) (fun i k => impl_instrumentText.l0 k (insUpto l i) l (l.length : Int) (i : Int) l a) (fun i => l.length - i) (fun i => i ≤ l.length) (fun _ r => r = (insUpto l l.length ++ decText a.toNat) ++ (⟨#[10]⟩ : ByteArray)) ?_ 0 (Nat.zero_le _)
  intro i hi ih
  have hsz := insUpto_size l a hg i hi
  simp only [impl_instrumentText.l0, wrap64_id (x := (i : Int) + 1) (by omega) (by omega)]
  refine tite (fun c => ?_) (fun c => ?_)
  · have hc := hg.1 i (by omega) c
    have hp := (pitchText_size (rd l i) hc.1 hc.2.1).1
    refine tpos (by omega) (tpos c ?_)
    simp only [pitchName_eq (rd l i) hc.1 hc.2.1, Option.bind_some]
    refine tpos (by rw [space_size]; omega) ?_
    have h := ih (i + 1) (by omega) (by omega)
    simpa [insUpto] using h
  · obtain rfl : i = l.length := by omega
    have hd := (decText_size a.toNat (by omega)).1
    have e : itoa.f a = some (decText a.toNat) := by
      unfold itoa.f
      rw [if_pos (by omega), if_pos (by omega)]
      rfl
    simp only [e, Option.bind_some]
    exact tpos (by omega) (tsome rfl)
def sp (c : UInt8) : List UInt8 → List (List UInt8)
  | [] => [[]]
  | b :: l => if b = c then [] :: sp c l else (b :: (sp c l).headD []) :: (sp c l).tail
theorem sp_ne (c : UInt8) (l : List UInt8) : sp c l ≠ [] := by
  cases l with
  | nil => simp [sp]
  | cons b l => unfold sp; split <;> simp
theorem sp_cons (c : UInt8) (l : List UInt8) : ∃ x r, sp c l = x :: r := by
  cases h : sp c l with
  | nil => exact absurd h (sp_ne c l)
  | cons x r => exact ⟨x, r, rfl⟩
theorem sp_join (c : UInt8) (l : List UInt8) : Lib.join (sp c l) [c] = l := by
  induction l with
  | nil => rfl
  | cons b l ih =>
    obtain ⟨x, r, e⟩ := sp_cons c l
    rw [e, Lib.join_cons] at ih
    unfold sp
    by_cases h : b = c
    · subst h
      rw [if_pos rfl, e, Lib.join_cons]
      simp only [Lib.joinTail, List.map_cons, List.flatten_cons, List.nil_append, List.cons_append] at ih ⊢
      rw [ih]
    · rw [if_neg h, e, Lib.join_cons]
      simp only [List.headD_cons, List.tail_cons, List.cons_append]
      rw [ih]
theorem sp_none (c : UInt8) (x : List UInt8) (h : c ∉ x) : sp c x = [x] := by
  induction x with
  | nil => rfl
  | cons b l ih =>
    have hb : b ≠ c := fun e => h (by simp [e])
    unfold sp
    rw [if_neg hb, ih (fun e => h (by simp [e]))]
    rfl
theorem sp_hit (c : UInt8) (x l : List UInt8) (h : c ∉ x) : sp c (x ++ c :: l) = x :: sp c l := by
  induction x with
  | nil => simp [sp]
  | cons b x ih =>
    have hb : b ≠ c := fun e => h (by simp [e])
    rw [List.cons_append]
    have ih' := ih (fun e => h (by simp [e]))
    conv => lhs; unfold sp
    rw [if_neg hb, ih']
    rfl
theorem sp_of_join (c : UInt8) (ws : List (List UInt8)) (h0 : ws ≠ []) (h : ∀ w ∈ ws, c ∉ w) : sp c (Lib.join ws [c]) = ws := by
  induction ws with
  | nil => exact absurd rfl h0
  | cons x r ih =>
    rw [Lib.join_cons]
    cases r with
    | nil => simp only [Lib.joinTail, List.map_nil, List.flatten_nil, List.append_nil]; exact sp_none c x (h x (by simp))
    | cons y r =>
      have := ih (by simp) (fun w hw => h w (List.mem_cons_of_mem _ hw))
      rw [Lib.join_cons] at this
      simp only [Lib.joinTail, List.map_cons, List.flatten_cons, List.append_assoc, List.nil_append, List.cons_append] at this ⊢
      rw [sp_hit c x _ (h x (by simp)), this]
theorem sp_len (c : UInt8) (l : List UInt8) : (sp c l).length ≤ l.length + 1 := by
  induction l with
  | nil => simp [sp]
  | cons b l ih =>
    obtain ⟨x, r, e⟩ := sp_cons c l
    unfold sp
    rw [e] at ih ⊢
    split <;> simp at ih ⊢ <;> omega
theorem find_c (c : UInt8) (l : List UInt8) : c ∉ l ∨ ∃ x r, c ∉ x ∧ l = x ++ c :: r := by
  induction l with
  | nil => exact .inl (by simp)
  | cons b l ih =>
    by_cases h : b = c
    · subst h; exact .inr ⟨[], l, by simp, rfl⟩
    · rcases ih with ih | ⟨x, r, h1, rfl⟩
      · exact .inl (fun hc => (List.mem_cons.1 hc).elim (fun e => h e.symm) ih)
      · exact .inr ⟨b :: x, r, fun hc => (List.mem_cons.1 hc).elim (fun e => h e.symm) h1, rfl⟩
theorem index_hit1 (c : UInt8) (x r : List UInt8) (h : c ∉ x) : Lib.index (x ++ c :: r) [c] = x.length := by
  induction x with
  | nil => simp [Lib.index, List.isPrefixOf]
  | cons b x ih =>
    have hb : b ≠ c := fun e => h (by simp [e])
    have hp : ([c] : List UInt8).isPrefixOf (b :: (x ++ c :: r)) = false := by simp [List.isPrefixOf, Ne.symm hb]
    rw [List.cons_append, Lib.index, hp, ih (fun e => h (by simp [e]))]
    simp
theorem splitK_sp (c : UInt8) : ∀ (n : Nat) (l : List UInt8), l.length ≤ n → Lib.splitK [c] 0 (l.count c) l = sp c l
  | n, l, hn => by
    rcases find_c c l with h | ⟨x, r, h, rfl⟩
    · rw [List.count_eq_zero.2 h, sp_none c l h]; rfl
    · have hc : (x ++ c :: r).count c = r.count c + 1 := by rw [List.count_append, List.count_eq_zero.2 h, List.count_cons_self, Nat.zero_add]
      cases n with
      | zero => simp at hn
      | succ n =>
        have hr : r.length ≤ n := by simp at hn; omega
        rw [hc, Lib.splitK, index_hit1 c x r h, sp_hit c x r h, ← splitK_sp c n r hr]
        rw [if_neg (by simp)]
        simp
theorem splitB_sp (c : UInt8) (s : ByteArray) : (Lib.splitB ⟨#[c]⟩ 0 (Lib.countB s ⟨#[c]⟩) s).map (·.data.toList) = sp c s.data.toList := by
  rw [Lib.splitB_data]
  show Lib.splitK [c] 0 (Lib.count s.data.toList [c]) s.data.toList = _
  rw [Lib.count_one, splitK_sp c _ _ (Nat.le_refl _)]
theorem ex_data (s : ByteArray) (a b : Nat) : (s.extract a b).data.toList = (s.data.toList.drop a).take (b - a) := by
  rw [ByteArray.data_extract, Array.toList_extract, List.extract_eq_take_drop]
theorem bs_len (s : ByteArray) : s.data.toList.length = s.size := by rw [Array.length_toList]; rfl
theorem bt_eq (s : ByteArray) (i : Nat) (h : i < s.size) : bt s (i : Int) = ((s.data.toList.getD i 0).toNat : Int) := by
  have hl : i < s.data.toList.length := by rw [bs_len]; exact h
  unfold bt
  rw [dif_pos (by simpa using h), List.getD_eq_getElem?_getD, List.getElem?_eq_getElem hl]
  rfl
theorem drop_at (l : List UInt8) (i : Nat) (h : i < l.length) : l.drop i = l.getD i 0 :: l.drop (i + 1) := by
  rw [List.getD_eq_getElem?_getD, List.getElem?_eq_getElem h, List.drop_eq_getElem_cons h]
  rfl
theorem take_at (l : List UInt8) (i : Nat) (h : i < l.length) : l.take (i + 1) = l.take i ++ [l.getD i 0] := by
  rw [List.getD_eq_getElem?_getD, List.getElem?_eq_getElem h, List.take_add_one, List.getElem?_eq_getElem h]
  rfl
theorem l1Split_tot (s : ByteArray) (c : UInt8) (hs : s.size ≤ 1048576) : Tot (fun k => spec_l1Split.f k s (c.toNat : Int)) (fun r => r.map (·.data.toList) = sp c s.data.toList) := by
  unfold spec_l1Split.f
  have hlen := bs_len s
  refine trec (σ := List ByteArray × Nat × Nat) (fun q k => spec_l1Split.l0 k s (c.toNat : Int) q.1 (q.2.1 : Int) (q.2.2 : Int)) (fun q => s.size - q.2.2)
    (fun q => q.2.1 ≤ q.2.2 ∧ q.2.2 ≤ s.size ∧ q.1.length ≤ q.2.1 ∧ c ∉ (s.data.toList.drop q.2.1).take (q.2.2 - q.2.1) ∧ q.1.map (·.data.toList) ++ sp c (s.data.toList.drop q.2.1) = sp c s.data.toList)
    (fun _ r => r.map (·.data.toList) = sp c s.data.toList) ?_ ([], 0, 0) ⟨Nat.le_refl _, Nat.zero_le _, Nat.le_refl _, by simp, by simp⟩
  rintro ⟨acc, st, i⟩ ⟨h1, h2, h3, h4, h5⟩ ih
  dsimp only at h1 h2 h3 h4 h5 ⊢
  simp only [spec_l1Split.l0]
  refine tite (fun cc => ?_) (fun cc => ?_)
  · refine tpos (by omega) ?_
    have hi : i < s.size := by omega
    rw [bt_eq s i hi]
    have hw : s.data.toList.drop st = (s.data.toList.drop st).take (i - st) ++ s.data.toList.getD i 0 :: s.data.toList.drop (i + 1) := by
      conv => lhs; rw [← List.take_append_drop (i - st) (s.data.toList.drop st)]
      rw [List.drop_drop, show st + (i - st) = i by omega, drop_at _ i (by omega)]
    refine tite (fun c2 => ?_) (fun c2 => ?_)
    · have hc : s.data.toList.getD i 0 = c := UInt8.toNat_inj.1 (by omega)
      refine tpos (by omega) (tpos (by omega) (tpos (by omega) (tpos (by omega) ?_)))
      rw [wrap64_id (by omega) (by omega)]
      have := ih (acc ++ [s.extract st i], i + 1, i + 1) ⟨Nat.le_refl _, by dsimp only; omega, by simp; omega, by simp, ?_⟩ (by dsimp only; omega)
      · simpa using this
      · rw [List.map_append, List.map_cons, List.map_nil, ex_data, ← h5]
        conv => rhs; rw [hw, hc, sp_hit c _ _ h4]
        simp
    · rw [wrap64_id (by omega) (by omega)]
      have hc : s.data.toList.getD i 0 ≠ c := fun e => c2 (by rw [e])
      have := ih (acc, st, i + 1) ⟨by dsimp only; omega, by dsimp only; omega, h3, ?_, h5⟩ (by dsimp only; omega)
      · simpa using this
      · dsimp only
        rw [show i + 1 - st = (i - st) + 1 by omega, take_at _ (i - st) (by rw [List.length_drop]; omega)]
        intro hm
        rcases List.mem_append.1 hm with hm | hm
        · exact h4 hm
        · simp only [List.mem_singleton] at hm
          apply hc
          rw [hm, List.getD_eq_getElem?_getD, List.getD_eq_getElem?_getD, List.getElem?_drop, show st + (i - st) = i by omega]
  · obtain rfl : i = s.size := by omega
    refine tpos (by omega) (tpos (by omega) (tpos (by omega) (tsome ?_)))
    rw [List.map_append, List.map_cons, List.map_nil, ← h5]
    have e : (s.extract st s.size).data.toList = s.data.toList.drop st := by
      rw [ex_data, List.take_of_length_le (by rw [List.length_drop]; omega)]
    have h4' : c ∉ s.data.toList.drop st := by rwa [List.take_of_length_le (by rw [List.length_drop]; omega)] at h4
    simp only [Int.toNat_natCast]
    rw [e, sp_none c _ h4']
theorem split_eq (s : ByteArray) (c : UInt8) (hs : s.size ≤ 1048576) : ∃ r, strings_Split.f s ⟨#[c]⟩ = some r ∧ r.map (·.data.toList) = sp c s.data.toList := by
  refine ⟨Lib.splitB ⟨#[c]⟩ 0 (Lib.countB s ⟨#[c]⟩) s, ?_, splitB_sp c s⟩
  unfold strings_Split.f
  rw [if_pos (show 1 ≤ (⟨#[c]⟩ : ByteArray).size from Nat.le_refl 1), if_pos (by omega)]
theorem snoc_ind {motive : List UInt8 → Prop} (nil : motive []) (append_singleton : ∀ (l : List UInt8) (b : UInt8), motive l → motive (l ++ [b])) (l : List UInt8) : motive l := by
  have key : ∀ l : List UInt8, motive l.reverse := by
    intro l
    induction l with
    | nil => exact nil
    | cons b l ih => rw [List.reverse_cons]; exact append_singleton _ _ ih
  have := key l.reverse
  rwa [List.reverse_reverse] at this
def dval (l : List UInt8) : Nat := l.foldl (fun a b => 10 * a + (b.toNat - 48)) 0
def Dig (b : UInt8) : Prop := 48 ≤ b.toNat ∧ b.toNat ≤ 57
def Can (l : List UInt8) : Prop := l ≠ [] ∧ (∀ b ∈ l, Dig b) ∧ (l.getD 0 0 ≠ 48 ∨ l.length = 1)
theorem dval_snoc (l : List UInt8) (b : UInt8) : dval (l ++ [b]) = 10 * dval l + (b.toNat - 48) := by simp [dval, List.foldl_append]
theorem dval_lt (l : List UInt8) (h : ∀ b ∈ l, Dig b) : dval l < 10 ^ l.length := by
  induction l using snoc_ind with
  | nil => simp [dval]
  | append_singleton l b ih =>
    have := ih (fun x hx => h x (by simp [hx]))
    have hb := h b (by simp)
    unfold Dig at hb
    rw [dval_snoc, List.length_append, List.length_singleton, Nat.pow_succ]
    omega
theorem dval_pos (l : List UInt8) (h : ∀ b ∈ l, Dig b) (h0 : l ≠ []) (h1 : l.getD 0 0 ≠ 48) : 1 ≤ dval l := by
  induction l using snoc_ind with
  | nil => exact absurd rfl h0
  | append_singleton l b ih =>
    have hb := h b (by simp)
    unfold Dig at hb
    rw [dval_snoc]
    cases l with
    | nil =>
      simp only [List.nil_append, List.getD_cons_zero] at h1
      have : b.toNat ≠ 48 := fun e => h1 (UInt8.toNat_inj.1 e)
      omega
    | cons x r =>
      have := ih (fun y hy => h y (by simp at hy ⊢; rcases hy with rfl | hy <;> simp [*])) (by simp) (by simpa using h1)
      omega
theorem can_dec (l : List UInt8) (h : Can l) : Lib.decDigits (dval l) = l := by
  induction l using snoc_ind with
  | nil => exact absurd rfl h.1
  | append_singleton l b ih =>
    have hb := h.2.1 b (by simp)
    unfold Dig at hb
    rw [dval_snoc]
    cases l with
    | nil =>
      unfold Lib.decDigits
      rw [dif_pos (by simp [dval]; omega)]
      simp only [List.nil_append, List.cons.injEq, and_true]
      apply UInt8.toNat_inj.1
      simp [dval]
      omega
    | cons x r =>
      have hd : ∀ y ∈ x :: r, Dig y := fun y hy => h.2.1 y (by simp at hy ⊢; rcases hy with rfl | hy <;> simp [*])
      have h48 : (x :: r).getD 0 0 ≠ 48 := by
        rcases h.2.2 with h3 | h3
        · simpa using h3
        · simp at h3
      have h1 := dval_pos (x :: r) hd (by simp) h48
      have h2 := ih ⟨by simp, hd, .inl h48⟩
      unfold Lib.decDigits
      rw [dif_neg (by omega), show (10 * dval (x :: r) + (b.toNat - 48)) / 10 = dval (x :: r) by omega, h2]
      congr 1
      simp only [List.cons.injEq, and_true]
      apply UInt8.toNat_inj.1
      simp
      omega
theorem dec_can (n : Nat) : Can (Lib.decDigits n) ∧ dval (Lib.decDigits n) = n ∧ (1 ≤ n → (Lib.decDigits n).getD 0 0 ≠ 48) := by
  induction n using Nat.strongRecOn with
  | ind n ih =>
    unfold Lib.decDigits
    by_cases h : n < 10
    · rw [dif_pos h]
      have e : (UInt8.ofNat (48 + n)).toNat = 48 + n := by simp; omega
      refine ⟨⟨by simp, fun b hb => ?_, .inr rfl⟩, ?_, fun h1 => ?_⟩
      · simp only [List.mem_singleton] at hb
        subst hb
        unfold Dig; rw [e]; omega
      · show 10 * 0 + ((UInt8.ofNat (48 + n)).toNat - 48) = n
        rw [e]; omega
      · simp only [List.getD_cons_zero]
        intro hc
        have := congrArg UInt8.toNat hc
        rw [e] at this
        have : (48 : UInt8).toNat = 48 := rfl
        omega
    · rw [dif_neg h]
      obtain ⟨⟨h1, h2, h3⟩, h4, h5⟩ := ih (n / 10) (by omega)
      have e : (UInt8.ofNat (48 + n % 10)).toNat = 48 + n % 10 := by simp; omega
      have h6 := h5 (by omega)
      have hg : (Lib.decDigits (n / 10) ++ [UInt8.ofNat (48 + n % 10)]).getD 0 0 = (Lib.decDigits (n / 10)).getD 0 0 := by
        cases hh : Lib.decDigits (n / 10) with
        | nil => exact absurd hh h1
        | cons a b => rfl
      refine ⟨⟨by simp, fun b hb => ?_, .inl (by rw [hg]; exact h6)⟩, ?_, fun _ => by rw [hg]; exact h6⟩
      · rcases List.mem_append.1 hb with hb | hb
        · exact h2 b hb
        · simp only [List.mem_singleton] at hb
          subst hb
          unfold Dig; rw [e]; omega
      · rw [dval_snoc, h4, e]; omega
theorem dval_take (l : List UInt8) (i : Nat) (h : i < l.length) : dval (l.take (i + 1)) = 10 * dval (l.take i) + ((l.getD i 0).toNat - 48) := by rw [take_at l i h, dval_snoc]
theorem getD_mem (l : List UInt8) (i : Nat) (h : i < l.length) : l.getD i 0 ∈ l := by
  rw [List.getD_eq_getElem?_getD, List.getElem?_eq_getElem h]
  exact List.getElem_mem h
theorem dval_take_lt (l : List UInt8) (i n : Nat) (h : ∀ b ∈ l.take i, Dig b) (hi : i ≤ n) : dval (l.take i) < 10 ^ n := by
  have h1 := dval_lt (l.take i) h
  have h2 : (l.take i).length ≤ n := by rw [List.length_take]; omega
  exact Nat.lt_of_lt_of_le h1 (Nat.pow_le_pow_right (by omega) h2)
theorem dig_step (l : List UInt8) (i : Nat) (h : i < l.length) (hd : ∀ b ∈ l.take i, Dig b) (h1 : Dig (l.getD i 0)) : ∀ b ∈ l.take (i + 1), Dig b := by
  rw [take_at l i h]
  intro b hb
  rcases List.mem_append.1 hb with hb | hb
  · exact hd b hb
  · simp only [List.mem_singleton] at hb; rw [hb]; exact h1
theorem dec_wrap (a : Nat) (b : UInt8) (ha : a < 10 ^ 9) (hb : Dig b) : wrap64 (wrap64 (10 * (a : Int)) + (((b.toNat : Int) - 48) % 256)) = ((10 * a + (b.toNat - 48) : Nat) : Int) := by
  unfold Dig at hb
  rw [wrap64_id (x := 10 * (a : Int)) (by omega) (by omega), wrap64_id (by omega) (by omega)]
  omega
theorem decimal_loop (s : ByteArray) (hs : s.size ≤ 9) : Tot (fun k => impl_decimal.l0 k s 0 0) (fun r => ((∀ b ∈ s.data.toList, Dig b) → r = ((dval s.data.toList : Int), true)) ∧ (r.2 = true → (∀ b ∈ s.data.toList, Dig b) ∧ r.1 = (dval s.data.toList : Int))) := by
  have hlen := bs_len s
  refine trec (σ := Nat) (fun i k => impl_decimal.l0 k s (dval (s.data.toList.take i) : Int) (i : Int)) (fun i => s.size - i) (fun i => i ≤ s.size ∧ ∀ b ∈ s.data.toList.take i, Dig b)
    (fun _ r => ((∀ b ∈ s.data.toList, Dig b) → r = ((dval s.data.toList : Int), true)) ∧ (r.2 = true → (∀ b ∈ s.data.toList, Dig b) ∧ r.1 = (dval s.data.toList : Int))) ?_ 0 ⟨Nat.zero_le _, by simp⟩
  rintro i ⟨h1, h2⟩ ih
  simp only [impl_decimal.l0]
  refine tite (fun c => ?_) (fun c => ?_)
  · have hi : i < s.size := by omega
    have hm := getD_mem s.data.toList i (by omega)
    refine tpos (by omega) ?_
    rw [bt_eq s i hi]
    refine tite (fun c2 => tsome ⟨fun h => absurd (h _ hm) (fun q => by unfold Dig at q; omega), fun h => by simp at h⟩) (fun c2 => ?_)
    refine tite (fun c3 => tsome ⟨fun h => absurd (h _ hm) (fun q => by unfold Dig at q; omega), fun h => by simp at h⟩) (fun c3 => ?_)
    have hd : Dig (s.data.toList.getD i 0) := by unfold Dig; omega
    rw [dec_wrap _ _ (dval_take_lt _ i 9 h2 (by omega)) hd, ← dval_take _ i (by omega), wrap64_id (by omega) (by omega)]
    exact ih (i + 1) ⟨by omega, dig_step _ i (by omega) h2 hd⟩ (by omega)
  · obtain rfl : i = s.size := by omega
    have e : s.data.toList.take s.size = s.data.toList := List.take_of_length_le (by omega)
    rw [e] at h2 ⊢
    exact tsome ⟨fun _ => rfl, fun _ => ⟨h2, rfl⟩⟩
theorem decimal_tot (s : ByteArray) (hs : s.size ≤ 1048576) : Tot (fun k => impl_decimal.f k s) (fun r => (Can s.data.toList ∧ s.size ≤ 9 → r = ((dval s.data.toList : Int), true)) ∧ (r.2 = true → Can s.data.toList ∧ s.size ≤ 9 ∧ r.1 = (dval s.data.toList : Int))) := by
  have hlen := bs_len s
  have hno : ¬ (Can s.data.toList ∧ s.size ≤ 9) → Tot (fun k => impl_decimal.j0 k s true) (fun r => (Can s.data.toList ∧ s.size ≤ 9 → r = ((dval s.data.toList : Int), true)) ∧ (r.2 = true → Can s.data.toList ∧ s.size ≤ 9 ∧ r.1 = (dval s.data.toList : Int))) := fun h => by
    refine tstep ?_
    simp only [impl_decimal.j0]
    exact tpos trivial (tsome ⟨fun g => absurd g h, fun g => by simp at g⟩)
  have hgo : s.size ≤ 9 → s.size ≠ 0 → (s.data.toList.getD 0 0 ≠ 48 ∨ s.size = 1) → Tot (fun k => impl_decimal.j0 k s false) (fun r => (Can s.data.toList ∧ s.size ≤ 9 → r = ((dval s.data.toList : Int), true)) ∧ (r.2 = true → Can s.data.toList ∧ s.size ≤ 9 ∧ r.1 = (dval s.data.toList : Int))) := fun h9 h0 h48 => by
    refine tstep ?_
    simp only [impl_decimal.j0]
    refine tneg (by simp) ?_
    refine tmono (decimal_loop s h9) (fun r hr => ⟨fun g => hr.1 g.1.2.1, fun g => ?_⟩)
    obtain ⟨g1, g2⟩ := hr.2 g
    exact ⟨⟨fun e => h0 (by rw [← hlen, e]; rfl), g1, by rw [hlen]; exact h48⟩, h9, g2⟩
  unfold impl_decimal.f
  rw [Go.ByteArray.toList_eq]
  refine tite (fun c => hno (fun h => h.1.1 c)) (fun c => ?_)
  have h0 : s.size ≠ 0 := fun e => c (List.eq_nil_of_length_eq_zero (by omega))
  refine tite (fun c2 => hno (fun h => by omega)) (fun c2 => ?_)
  refine tpos (by omega) ?_
  have hb := bt_eq s 0 (by omega)
  rw [show ((0 : Nat) : Int) = 0 from rfl] at hb
  rw [hb]
  refine tite (fun c3 => ?_) (fun c3 => hgo (by omega) h0 (.inl (fun e => c3 (by rw [e]; rfl))))
  by_cases h1 : (s.size : Int) > 1
  · rw [decide_eq_true h1]
    refine hno (fun h => ?_)
    rcases h.1.2.2 with h | h
    · exact h (UInt8.toNat_inj.1 (by have : (48 : UInt8).toNat = 48 := rfl; omega))
    · omega
  · rw [decide_eq_false h1]
    exact hgo (by omega) h0 (.inr (by omega))
theorem l1Read_loop (s : ByteArray) (hs : s.size ≤ 9) : Tot (fun k => spec_l1Read.l0 k s 0 0) (fun r => (∀ b ∈ s.data.toList, Dig b) → r = (dval s.data.toList : Int)) := by
  have hlen := bs_len s
  refine trec (σ := Nat) (fun i k => spec_l1Read.l0 k s (dval (s.data.toList.take i) : Int) (i : Int)) (fun i => s.size - i) (fun i => i ≤ s.size ∧ ∀ b ∈ s.data.toList.take i, Dig b)
    (fun _ r => (∀ b ∈ s.data.toList, Dig b) → r = (dval s.data.toList : Int)) ?_ 0 ⟨Nat.zero_le _, by simp⟩
  rintro i ⟨h1, h2⟩ ih
  simp only [spec_l1Read.l0]
  refine tite (fun c => ?_) (fun c => ?_)
  · have hi : i < s.size := by omega
    have hm := getD_mem s.data.toList i (by omega)
    refine tpos (by omega) ?_
    rw [bt_eq s i hi]
    refine tite (fun c2 => tsome (fun h => absurd (h _ hm) (fun q => by unfold Dig at q; omega))) (fun c2 => ?_)
    refine tite (fun c3 => tsome (fun h => absurd (h _ hm) (fun q => by unfold Dig at q; omega))) (fun c3 => ?_)
    have hd : Dig (s.data.toList.getD i 0) := by unfold Dig; omega
    rw [dec_wrap _ _ (dval_take_lt _ i 9 h2 (by omega)) hd, ← dval_take _ i (by omega), wrap64_id (by omega) (by omega)]
    exact ih (i + 1) ⟨by omega, dig_step _ i (by omega) h2 hd⟩ (by omega)
  · obtain rfl : i = s.size := by omega
    have e : s.data.toList.take s.size = s.data.toList := List.take_of_length_le (by omega)
    rw [e] at h2 ⊢
    exact tsome (fun _ => rfl)
theorem l1Read_tot (s : ByteArray) (hs : s.size ≤ 1048576) : Tot (fun k => spec_l1Read.f k s) (fun r => Can s.data.toList ∧ s.size ≤ 6 → r = (dval s.data.toList : Int)) := by
  have hlen := bs_len s
  have hno : ¬ (Can s.data.toList ∧ s.size ≤ 6) → Tot (fun k => spec_l1Read.j0 k s true) (fun r => Can s.data.toList ∧ s.size ≤ 6 → r = (dval s.data.toList : Int)) := fun h => by
    refine tstep ?_
    simp only [spec_l1Read.j0]
    exact tpos trivial (tsome (fun g => absurd g h))
  have hgo : s.size ≤ 6 → Tot (fun k => spec_l1Read.j0 k s false) (fun r => Can s.data.toList ∧ s.size ≤ 6 → r = (dval s.data.toList : Int)) := fun h9 => by
    refine tstep ?_
    simp only [spec_l1Read.j0]
    exact tneg (by simp) (tmono (l1Read_loop s (by omega)) (fun r hr g => hr g.1.2.1))
  unfold spec_l1Read.f
  rw [l1In_eq]
  simp only [Option.bind_some, decide_eq_true_eq]
  refine tite (fun c => ?_) (fun c => hno (fun h => c ⟨?_, by omega⟩))
  · refine tpos (by omega) ?_
    have hb := bt_eq s 0 (by omega)
    rw [show ((0 : Nat) : Int) = 0 from rfl] at hb
    rw [hb]
    refine tite (fun c3 => ?_) (fun c3 => hgo (by omega))
    by_cases h1 : (s.size : Int) > 1
    · rw [decide_eq_true h1]
      refine hno (fun h => ?_)
      rcases h.1.2.2 with h | h
      · exact h (UInt8.toNat_inj.1 (by have : (48 : UInt8).toNat = 48 := rfl; omega))
      · omega
    · rw [decide_eq_false h1]
      exact hgo (by omega)
  · have : s.data.toList ≠ [] := h.1.1
    have : s.data.toList.length ≠ 0 := fun e => this (List.eq_nil_of_length_eq_zero e)
    omega
theorem decText_bytes (n : Nat) : (decText n).data.toList = Lib.decDigits n := rfl
theorem decText_can (n : Nat) : Can (decText n).data.toList ∧ dval (decText n).data.toList = n := ⟨(dec_can n).1, (dec_can n).2.1⟩
def NS (b : UInt8) : Prop := b ≠ 32 ∧ b ≠ 42 ∧ b ≠ 47 ∧ b ≠ 10
theorem dig_ns (b : UInt8) (h : Dig b) : NS b := by
  unfold Dig at h
  refine ⟨?_, ?_, ?_, ?_⟩ <;> (rintro rfl; revert h; decide)
theorem decText_ns (n : Nat) : ∀ b ∈ (decText n).data.toList, NS b := fun b hb => dig_ns b ((decText_can n).1.2.1 b hb)
instance (b : UInt8) : Decidable (NS b) := by unfold NS; exact inferInstance
theorem noteName_ns (i : Int) (h0 : 0 ≤ i) (h1 : i < 12) : ∀ b ∈ (rdOf ByteArray.empty noteNames i).data.toList, NS b := by
  obtain rfl | rfl | rfl | rfl | rfl | rfl | rfl | rfl | rfl | rfl | rfl | rfl : i = 0 ∨ i = 1 ∨ i = 2 ∨ i = 3 ∨ i = 4 ∨ i = 5 ∨ i = 6 ∨ i = 7 ∨ i = 8 ∨ i = 9 ∨ i = 10 ∨ i = 11 := by omega
  all_goals decide
theorem noteName_inj : ∀ i j : Fin 12, (rdOf ByteArray.empty noteNames (i.val : Int)).data.toList = (rdOf ByteArray.empty noteNames (j.val : Int)).data.toList → i = j := by decide
theorem pitchText_bytes (p : Int) : (pitchText p).data.toList = (rdOf ByteArray.empty noteNames (p % 12)).data.toList ++ (decText (p / 12).toNat).data.toList := by unfold pitchText; simp
theorem pitchText_ns (p : Int) (h0 : 24 ≤ p) (h1 : p ≤ 96) : ∀ b ∈ (pitchText p).data.toList, NS b := by
  rw [pitchText_bytes]
  intro b hb
  rcases List.mem_append.1 hb with hb | hb
  · exact noteName_ns (p % 12) (by omega) (by omega) b hb
  · exact decText_ns _ b hb
theorem decText_one (u : Nat) (h : u < 10) : (decText u).data.toList = [UInt8.ofNat (48 + u)] := by rw [decText_bytes]; unfold Lib.decDigits; rw [dif_pos h]
theorem pitchText_inj (p q : Int) (h0 : 24 ≤ p) (h1 : p ≤ 96) (h2 : 24 ≤ q) (h3 : q ≤ 96) (h : (pitchText p).data.toList = (pitchText q).data.toList) : p = q := by
  rw [pitchText_bytes, pitchText_bytes, decText_one (p / 12).toNat (by omega), decText_one (q / 12).toNat (by omega)] at h
  obtain ⟨e1, e2⟩ := List.append_inj' h rfl
  have e3 := noteName_inj ⟨(p % 12).toNat, by omega⟩ ⟨(q % 12).toNat, by omega⟩ (by
    show (rdOf ByteArray.empty noteNames (((p % 12).toNat : Nat) : Int)).data.toList = (rdOf ByteArray.empty noteNames (((q % 12).toNat : Nat) : Int)).data.toList
    rw [show (((p % 12).toNat : Nat) : Int) = p % 12 by omega, show (((q % 12).toNat : Nat) : Int) = q % 12 by omega]; exact e1)
  have e4 : (p % 12).toNat = (q % 12).toNat := congrArg Fin.val e3
  simp only [List.cons.injEq, and_true] at e2
  have e5 := congrArg UInt8.toNat e2
  simp at e5
  omega
def fpf (w : List UInt8) : Nat → Int → Option Int
  | 0, _ => none
  | n + 1, p => if (pitchText p).data.toList = w then some p else fpf w n (p + 1)
theorem fpf_some (w : List UInt8) : ∀ (n : Nat) (p q : Int), fpf w n p = some q → p ≤ q ∧ q < p + n ∧ (pitchText q).data.toList = w
  | 0, p, q, h => by simp [fpf] at h
  | n + 1, p, q, h => by
    unfold fpf at h
    split at h
    · rename_i c
      obtain rfl := Option.some.inj h
      exact ⟨Int.le_refl _, by omega, c⟩
    · have := fpf_some w n (p + 1) q h
      exact ⟨by omega, by omega, this.2.2⟩
theorem fpf_hit (q : Int) : ∀ (n : Nat) (p : Int), p ≤ q → q < p + n → 24 ≤ p → p + n ≤ 97 → fpf (pitchText q).data.toList n p = some q
  | 0, p, h1, h2, h3, h4 => by omega
  | n + 1, p, h1, h2, h3, h4 => by
    unfold fpf
    by_cases c : (pitchText p).data.toList = (pitchText q).data.toList
    · rw [if_pos c, pitchText_inj p q (by omega) (by omega) (by omega) (by omega) c]
    · rw [if_neg c]
      have : p ≠ q := fun e => c (by rw [e])
      exact fpf_hit q n (p + 1) (by omega) (by omega) (by omega) (by omega)
theorem ntRead_loop (s : ByteArray) : ∀ (n : Nat) (p : Int), p + n = 97 → 24 ≤ p → Tot (fun k => spec_ntRead.l0 k s p) (fun r => r = (fpf s.data.toList n p).getD (-1))
  | 0, p, h, h0 => by
    refine tstep ?_
    simp only [spec_ntRead.l0]
    exact tneg (by omega) (tsome rfl)
  | n + 1, p, h, h0 => by
    refine tstep ?_
    simp only [spec_ntRead.l0]
    refine tpos (by omega) ?_
    refine tbind (ntName_tot p (by omega) (by omega)) (fun _ e => ?_); subst e
    rw [Go.ByteArray.toList_eq, Go.ByteArray.toList_eq, wrap64_id (by omega) (by omega)]
    unfold fpf
    refine tite (fun c => tsome (by rw [if_pos c]; rfl)) (fun c => ?_)
    rw [if_neg c]
    exact ntRead_loop s n (p + 1) (by omega) (by omega)
theorem ntRead_tot (s : ByteArray) : Tot (fun k => spec_ntRead.f k s) (fun r => r = (fpf s.data.toList 73 24).getD (-1)) := ntRead_loop s 73 24 (by omega) (by omega)
theorem pitchNamed_loop (s : ByteArray) : ∀ (n : Nat) (p : Int), p + n = 97 → 24 ≤ p → Tot (fun k => impl_pitchNamed.l0 k s p) (fun r => r = (fpf s.data.toList n p).getD 0)
  | 0, p, h, h0 => by
    refine tstep ?_
    simp only [impl_pitchNamed.l0]
    exact tneg (by omega) (tsome rfl)
  | n + 1, p, h, h0 => by
    refine tstep ?_
    simp only [impl_pitchNamed.l0]
    refine tpos (by omega) ?_
    rw [pitchName_eq p (by omega) (by omega)]
    simp only [Option.bind_some]
    rw [Go.ByteArray.toList_eq, Go.ByteArray.toList_eq, wrap64_id (by omega) (by omega)]
    unfold fpf
    refine tite (fun c => tsome (by rw [if_pos c]; rfl)) (fun c => ?_)
    rw [if_neg c]
    exact pitchNamed_loop s n (p + 1) (by omega) (by omega)
theorem pitchNamed_tot (s : ByteArray) : Tot (fun k => impl_pitchNamed.f k s) (fun r => r = (fpf s.data.toList 73 24).getD 0) := pitchNamed_loop s 73 24 (by omega) (by omega)
theorem ns_no1 (c : UInt8) (hc : ¬ NS c) (l : List UInt8) (h : ∀ b ∈ l, NS b) : c ∉ l := fun hm => hc (h c hm)
theorem mem_len (c : UInt8) (l : List UInt8) : ∀ w ∈ sp c l, w.length ≤ l.length := by
  induction l with
  | nil => simp [sp]
  | cons b l ih =>
    obtain ⟨x, t, e⟩ := sp_cons c l
    unfold sp
    rw [e] at ih ⊢
    split
    · intro w hw
      rcases List.mem_cons.1 hw with rfl | hw
      · simp
      · have := ih w hw; simp; omega
    · intro w hw
      simp only [List.headD_cons, List.tail_cons] at hw
      rcases List.mem_cons.1 hw with rfl | hw
      · have := ih x (by simp); simp; omega
      · have := ih w (List.mem_cons_of_mem _ hw); simp; omega
theorem rd_mem_size1 {r : List ByteArray} {c : UInt8} {l : List UInt8} (h : r.map (·.data.toList) = sp c l) (i : Int) : (rdOf ByteArray.empty r i).size ≤ l.length := by
  unfold rdOf
  rw [List.getD_eq_getElem?_getD]
  cases hh : r[i.toNat]? with
  | none => exact Nat.zero_le _
  | some a =>
    have : a.data.toList ∈ sp c l := by rw [← h]; exact List.mem_map_of_mem (List.mem_of_getElem? hh)
    have := mem_len c l _ this
    rw [bs_len] at this
    exact this
theorem dec6 (n : Nat) (h : n < 1000000) : (decText n).size ≤ 6 := by
  have key : ∀ (d u : Nat), u < 10 ^ (d + 1) → d ≤ 5 → (decText u).size ≤ d + 1 := by
    intro d
    induction d with
    | zero => intro u hu _; rw [decText_small u (by omega)]; exact Nat.le_refl _
    | succ d ih =>
      intro u hu hd
      by_cases h10 : u < 10
      · rw [decText_small u h10]; show 1 ≤ _; omega
      · have hlt : u < 1000000 := Nat.lt_of_lt_of_le hu (Nat.pow_le_pow_right (by omega) (show d + 1 + 1 ≤ 6 by omega))
        rw [decText_big u h10 (by omega), ByteArray.size_append]
        have h1 := ih (u / 10) (by rw [Nat.pow_succ] at hu; omega) (by omega)
        have h2 : (strOfNums ([(wrap64 (48 + ((u % 10 : Nat) : Int))) % 256] : List Int)).size = 1 := rfl
        omega
  exact key 5 n (by omega) (by omega)
theorem suffix_eq (s : ByteArray) (hs : s.size ≤ 1048576) : ∃ b, strings_HasSuffix.f s (⟨#[10]⟩ : ByteArray) = some b ∧ (b = true ↔ ∃ p, s.data.toList = p ++ [10]) := by
  have hlen := bs_len s
  have z : (⟨#[10]⟩ : ByteArray).size = 1 := rfl
  unfold strings_HasSuffix.f stringslite_HasSuffix.f
  rw [z]
  by_cases h : (s.size : Int) ≥ ((1 : Nat) : Int)
  · rw [if_pos h, wrap64_id (x := (s.size : Int) - ((1 : Nat) : Int)) (by omega) (by omega), if_pos (by omega), if_pos (by omega)]
    refine ⟨_, rfl, ?_⟩
    rw [beq_iff_eq, Go.ByteArray.toList_eq, Go.ByteArray.toList_eq, ex_data, show ((s.size : Int) - ((1 : Nat) : Int)).toNat = s.size - 1 by omega]
    have e : s.data.toList = s.data.toList.take (s.size - 1) ++ s.data.toList.drop (s.size - 1) := (List.take_append_drop _ _).symm
    rw [List.take_of_length_le (by rw [List.length_drop]; omega)]
    show s.data.toList.drop (s.size - 1) = [10] ↔ _
    constructor
    · intro h1
      exact ⟨s.data.toList.take (s.size - 1), by rw [h1] at e; exact e⟩
    · rintro ⟨p, hp⟩
      have : p.length = s.size - 1 := by have := congrArg List.length hp; simp at this; omega
      rw [hp, ← this, List.drop_left]
  · rw [if_neg h]
    refine ⟨false, rfl, ⟨fun h => by simp at h, ?_⟩⟩
    rintro ⟨p, hp⟩
    have := congrArg List.length hp
    simp at this
    omega
theorem init_data (s : ByteArray) (p : List UInt8) (h : s.data.toList = p ++ [10]) : (s.extract 0 ((s.size : Int) - 1).toNat).data.toList = p ∧ (s.extract 0 ((s.size : Int) - 1).toNat).size = p.length ∧ s.size = p.length + 1 := by
  have hlen := bs_len s
  have h1 := congrArg List.length h
  rw [List.length_append, List.length_singleton] at h1
  have e : (s.extract 0 ((s.size : Int) - 1).toNat).data.toList = p := by
    rw [ex_data, List.drop_zero, h, show ((s.size : Int) - 1).toNat - 0 = p.length by omega, List.take_left]
  exact ⟨e, by rw [← bs_len, e], by omega⟩
def pb (p : Int) : List UInt8 := (pitchText p).data.toList
def inW (l : List Int) (a : Int) : List (List UInt8) := l.map pb ++ [(decText a.toNat).data.toList]
def inB (l : List Int) (a : Int) : List UInt8 := Lib.join (inW l a) [32] ++ [10]
theorem rd_in (l : List Int) (i : Nat) (h : i < l.length) : rd l (i : Int) = l[i] := by
  unfold rd
  rw [List.getD_eq_getElem?_getD]
  simp [h]
theorem take_in (l : List Int) (i : Nat) (h : i < l.length) : l.take (i + 1) = l.take i ++ [rd l (i : Int)] := by
  rw [rd_in l i h, List.take_add_one, List.getElem?_eq_getElem h]
  rfl
theorem in_mem (l : List Int) (a : Int) (hg : InGood l a) : ∀ p ∈ l, 24 ≤ p ∧ p ≤ 96 := by
  intro p hp
  obtain ⟨i, hi, rfl⟩ := List.getElem_of_mem hp
  have := hg.1 (i : Int) (by omega) (by omega)
  unfold InC at this
  rw [rd_in l i hi] at this
  exact ⟨this.1, this.2.1⟩
theorem ins_bytes (l : List Int) (i : Nat) (h : i ≤ l.length) : (insUpto l i).data.toList = ((l.take i).map (fun p => pb p ++ [32])).flatten := by
  induction i with
  | zero => rfl
  | succ i ih =>
    rw [take_in l i (by omega), List.map_append]
    show (insUpto l i ++ (pitchText (rd l i) ++ (⟨#[32]⟩ : ByteArray))).data.toList = _
    have e : (insUpto l i ++ (pitchText (rd l i) ++ (⟨#[32]⟩ : ByteArray))).data.toList = (insUpto l i).data.toList ++ (pb (rd l i) ++ [32]) := by simp [pb]
    rw [e, ih (by omega)]
    simp
theorem join_ins (l : List Int) (x : List UInt8) : Lib.join (l.map pb ++ [x]) [32] = (l.map (fun p => pb p ++ [32])).flatten ++ x := by
  induction l with
  | nil => exact Lib.join_one x [32]
  | cons p r ih =>
    have e : (p :: r).map pb ++ [x] = pb p :: (r.map pb ++ [x]) := rfl
    rw [e, Lib.join_cons]
    have h2 : Lib.joinTail [32] (r.map pb ++ [x]) = 32 :: Lib.join (r.map pb ++ [x]) [32] := by
      cases r with
      | nil => rw [List.map_nil, List.nil_append, Lib.join_one]; simp [Lib.joinTail]
      | cons y r => rw [List.map_cons, List.cons_append, Lib.join_cons]; simp [Lib.joinTail]
    rw [h2, ih]
    simp
theorem in_all (l : List Int) (a : Int) : ((insUpto l l.length ++ decText a.toNat) ++ (⟨#[10]⟩ : ByteArray)).data.toList = inB l a := by
  have e : ((insUpto l l.length ++ decText a.toNat) ++ (⟨#[10]⟩ : ByteArray)).data.toList = ((insUpto l l.length).data.toList ++ (decText a.toNat).data.toList) ++ [10] := by simp
  rw [e, ins_bytes l l.length (Nat.le_refl _), List.take_length]
  unfold inB inW
  rw [join_ins]
theorem inW_ns (l : List Int) (a : Int) (hg : InGood l a) : ∀ w ∈ inW l a, ∀ b ∈ w, NS b := by
  intro w hw
  rcases List.mem_append.1 hw with hw | hw
  · obtain ⟨p, hp, rfl⟩ := List.mem_map.1 hw
    have := in_mem l a hg p hp
    exact pitchText_ns p this.1 this.2
  · simp only [List.mem_singleton] at hw
    subst hw
    exact decText_ns _
theorem join_mem (ws : List (List UInt8)) (b : UInt8) (h : b ∈ Lib.join ws [32]) : b = 32 ∨ ∃ w ∈ ws, b ∈ w := by
  induction ws with
  | nil => exact absurd h (by simp [Lib.join_nil])
  | cons x r ih =>
    rw [Lib.join_cons] at h
    rcases List.mem_append.1 h with h | h
    · exact .inr ⟨x, by simp, h⟩
    · unfold Lib.joinTail at h
      obtain ⟨y, hy, hb⟩ := List.mem_flatten.1 h
      obtain ⟨z, hz, rfl⟩ := List.mem_map.1 hy
      rcases List.mem_append.1 hb with hb | hb
      · exact .inl (by simpa using hb)
      · exact .inr ⟨z, List.mem_cons_of_mem _ hz, hb⟩
theorem line_ten (l : List Int) (a : Int) (hg : InGood l a) : (10 : UInt8) ∉ Lib.join (inW l a) [32] := by
  intro hm
  rcases join_mem _ _ hm with h | ⟨w, hw, hb⟩
  · exact absurd h (by decide)
  · exact ns_no1 10 (by decide) w (inW_ns l a hg w hw) hb
theorem sp_line (l : List Int) (a : Int) (hg : InGood l a) : sp 32 (Lib.join (inW l a) [32]) = inW l a := sp_of_join 32 _ (by simp [inW]) (fun w hw => ns_no1 32 (by decide) w (inW_ns l a hg w hw))
theorem pb_len (p : Int) (h0 : 24 ≤ p) (h1 : p ≤ 96) : (pb p).length ≤ 3 := by
  unfold pb
  rw [pitchText_bytes, List.length_append, decText_one _ (by omega), bs_len]
  have := (noteName_size (p % 12) (by omega) (by omega)).1
  simp only [List.length_singleton]
  omega
theorem inB_len (l : List Int) (a : Int) (hg : InGood l a) : (inB l a).length ≤ 100 := by
  have key : ∀ r : List Int, (∀ p ∈ r, 24 ≤ p ∧ p ≤ 96) → ((r.map (fun p => pb p ++ [32])).flatten).length ≤ 4 * r.length := by
    intro r hr
    induction r with
    | nil => simp
    | cons p r ih =>
      have h1 := ih (fun q hq => hr q (List.mem_cons_of_mem _ hq))
      have h2 := hr p (by simp)
      have h3 := pb_len p h2.1 h2.2
      simp only [List.map_cons, List.flatten_cons, List.length_append, List.length_cons, List.length_nil] at h1 ⊢
      omega
  have h1 := key l (in_mem l a hg)
  have h2 := dec6 a.toNat (by have := hg.2; omega)
  have h3 := hg.2
  unfold inB inW
  rw [join_ins, List.length_append, List.length_append, bs_len, List.length_singleton]
  omega
theorem map_rd2 (t : List ByteArray) (l : List (List UInt8)) (h : t.map (·.data.toList) = l) (i : Nat) (hi : i < t.length) : (rdOf ByteArray.empty t (i : Int)).data.toList = l.getD i [] := by
  subst h
  unfold rdOf
  rw [List.getD_eq_getElem?_getD, List.getD_eq_getElem?_getD, List.getElem?_map]
  simp [hi]
theorem inW_at (l : List Int) (a : Int) (i : Nat) (hi : i < l.length) : (inW l a).getD i [] = pb (rd l (i : Int)) := by
  unfold inW
  rw [List.getD_eq_getElem?_getD, List.getElem?_append_left (by simpa using hi), List.getElem?_map, List.getElem?_eq_getElem hi, rd_in l i hi]
  rfl
theorem inW_last (l : List Int) (a : Int) : (inW l a).getD l.length [] = (decText a.toNat).data.toList := by
  unfold inW
  rw [List.getD_eq_getElem?_getD, List.getElem?_append_right (by simp)]
  simp
theorem specPI_hit (s : ByteArray) (hs : s.size ≤ 1048576) (l : List Int) (a : Int) (hg : InGood l a) (he : inB l a = s.data.toList) : Tot (fun k => spec_ParseInstrument.f k s) (fun r => r = (l, a, true)) := by
  have hlen := bs_len s
  have hn := hg.2
  unfold spec_ParseInstrument.f spec_inParse.f
  refine tbind (Q := fun r => r = (l, a, true)) ?_ (fun _ e => by subst e; exact tsome rfl)
  refine tbind (l1Split_tot s 10 hs) (fun t ht => ?_)
  rw [← he] at ht
  unfold inB at ht
  rw [sp_hit 10 _ [] (line_ten l a hg), show sp 10 [] = [[]] from rfl] at ht
  have hl : t.length = 2 := by have := congrArg List.length ht; simpa using this
  have h0 := map_rd2 t _ ht 0 (by omega)
  rw [show ((0 : Nat) : Int) = 0 from rfl, List.getD_cons_zero] at h0
  have hz : (rdOf ByteArray.empty t 0).size ≤ 1048576 := by
    rw [← bs_len, h0]
    have := congrArg List.length he
    unfold inB at this
    rw [List.length_append, List.length_singleton] at this
    omega
  refine tpos (by omega) ?_
  refine tbind (l1Split_tot _ 32 hz) (fun t2 ht2 => ?_)
  rw [h0, sp_line l a hg] at ht2
  have hl2 : t2.length = l.length + 1 := by have := congrArg List.length ht2; simpa [inW] using this
  refine tneg (by omega) ?_
  rw [wrap64_id (x := (t2.length : Int) - 1) (by omega) (by omega), show (t2.length : Int) - 1 = (l.length : Int) by omega]
  refine tpos (by omega) (tpos (by omega) ?_)
  have hlast := map_rd2 t2 _ ht2 l.length (by omega)
  rw [inW_last] at hlast
  have h6 := dec6 a.toNat (by omega)
  have hq := congrArg List.length hlast
  rw [bs_len, bs_len] at hq
  refine tbind (l1Read_tot _ (by omega)) (fun m g => ?_)
  have hm : m = a := by rw [g ⟨by rw [hlast]; exact (decText_can _).1, by omega⟩, hlast, (decText_can _).2]; omega
  subst hm
  refine tpos (by omega) ?_
  simp only [Option.bind_some, Int.toNat_natCast]
  have hl3 : (t2.take l.length).length = l.length := by rw [List.length_take]; omega
  rw [hl3]
  refine trec (σ := Nat) (fun i k => spec_inParse.l0 k s (t2.take l.length) (l.length : Int) (i : Int) (l.take i) m) (fun i => l.length - i) (fun i => i ≤ l.length) (fun _ r => r = (l, m, true)) ?_ 0 (Nat.zero_le _)
  intro i hi ih
  simp only [spec_inParse.l0]
  refine tite (fun c => ?_) (fun c => ?_)
  · have hi2 : i < l.length := by omega
    have hp := in_mem l m hg (rd l i) (by rw [rd_in l i hi2]; exact List.getElem_mem hi2)
    have hw := map_rd2 t2 _ ht2 i (by omega)
    rw [inW_at l m i hi2] at hw
    have hrd : rdOf ByteArray.empty (t2.take l.length) (i : Int) = rdOf ByteArray.empty t2 (i : Int) := by
      unfold rdOf
      rw [List.getD_eq_getElem?_getD, List.getD_eq_getElem?_getD, List.getElem?_take_of_lt (by omega)]
    refine tpos (by omega) (tpos (by omega) ?_)
    rw [hrd]
    refine tbind (ntRead_tot _) (fun p h => ?_)
    rw [hw] at h
    unfold pb at h
    rw [fpf_hit _ 73 24 (by omega) (by omega) (by omega) (by omega)] at h
    simp only [Option.getD_some] at h
    subst h
    refine tpos (by rw [List.length_take]; omega) ?_
    rw [wrap64_id (by omega) (by omega)]
    have := ih (i + 1) (by omega) (by omega)
    rw [take_in l i hi2] at this
    exact this
  · obtain rfl : i = l.length := by omega
    rw [List.take_length]
    refine tbind (inGood_tot l m (by omega)) (fun b hb => tpos (hb.2 hg) ?_)
    refine tbind (inText_tot l m hg) (fun _ e => ?_); subst e
    rw [Go.ByteArray.toList_eq, Go.ByteArray.toList_eq]
    exact tpos ((in_all l m).trans he) (tsome rfl)
theorem specPI_miss (s : ByteArray) (hs : s.size ≤ 1048576) (hno : ∀ (l : List Int) (a : Int), InGood l a → inB l a ≠ s.data.toList) : Tot (fun k => spec_ParseInstrument.f k s) (fun r => r = ([], 0, false)) := by
  have hlen := bs_len s
  unfold spec_ParseInstrument.f spec_inParse.f
  refine tbind (Q := fun r => r = ([], 0, false)) ?_ (fun _ e => by subst e; exact tsome rfl)
  refine tbind (l1Split_tot s 10 hs) (fun t ht => ?_)
  have pos : ∀ (t : List ByteArray) (c : UInt8) (x : List UInt8), t.map (·.data.toList) = sp c x → 0 < t.length := by
    intro t c x h
    have := congrArg List.length h
    have h2 : (sp c x).length ≠ 0 := fun e => sp_ne c x (List.eq_nil_of_length_eq_zero e)
    rw [List.length_map] at this
    omega
  have p1 := pos t 10 _ ht
  have z := rd_mem_size1 ht 0
  have hb := bs_len (rdOf ByteArray.empty t 0)
  refine tpos (by omega) ?_
  refine tbind (l1Split_tot _ 32 (by omega)) (fun t2 ht2 => ?_)
  have p2 := pos t2 32 _ ht2
  refine tite (fun c => tsome rfl) (fun c21 => ?_)
  rw [wrap64_id (x := (t2.length : Int) - 1) (by omega) (by omega)]
  refine tpos (by omega) (tpos (by omega) ?_)
  have z2 := rd_mem_size1 ht2 ((t2.length : Int) - 1)
  refine tbind (l1Read_tot _ (by omega)) (fun m _ => ?_)
  refine tpos (by omega) ?_
  simp only [Option.bind_some]
  refine trec (σ := List Int × Nat) (fun q k => spec_inParse.l0 k s (t2.take ((t2.length : Int) - 1).toNat) ((t2.take ((t2.length : Int) - 1).toNat).length : Int) (q.2 : Int) q.1 m) (fun q => t2.length - q.2) (fun q => q.2 ≤ t2.length ∧ q.1.length = q.2) (fun _ r => r = ([], 0, false)) ?_ ([], 0) ⟨Nat.zero_le _, rfl⟩
  rintro ⟨acc, i⟩ ⟨h1, h2⟩ ih
  dsimp only at h1 h2 ⊢
  have hlt : (t2.take ((t2.length : Int) - 1).toNat).length = t2.length - 1 := by rw [List.length_take]; omega
  simp only [spec_inParse.l0]
  refine tite (fun c => ?_) (fun c => ?_)
  · refine tpos (by omega) (tpos c ?_)
    refine tbind (ntRead_tot _) (fun p _ => ?_)
    refine tpos (by omega) ?_
    rw [wrap64_id (by omega) (by omega)]
    have := ih (acc ++ [p], i + 1) ⟨by dsimp only; omega, by simp; omega⟩ (by dsimp only; omega)
    simpa using this
  · refine tbind (inGood_tot acc m (by omega)) (fun b hb => ?_)
    refine tite (fun c2 => ?_) (fun _ => tsome rfl)
    have hg := hb.1 c2
    refine tbind (inText_tot acc m hg) (fun _ e => ?_); subst e
    rw [Go.ByteArray.toList_eq, Go.ByteArray.toList_eq]
    exact tneg (fun h => hno acc m hg ((in_all acc m).symm.trans h)) (tsome rfl)
theorem implPI_go (s : ByteArray) (hs : s.size ≤ 200) (p : List UInt8) (hp : s.data.toList = p ++ [10]) : ∃ t, strings_Split.f (s.extract 0 ((s.size : Int) - 1).toNat) (⟨#[32]⟩ : ByteArray) = some t ∧ t.map (·.data.toList) = sp 32 p := by
  obtain ⟨i1, i2, i3⟩ := init_data s p hp
  obtain ⟨t, ht, ht2⟩ := split_eq (s.extract 0 ((s.size : Int) - 1).toNat) 32 (by omega)
  exact ⟨t, ht, by rw [ht2, i1]⟩
theorem implPI_hit (s : ByteArray) (l : List Int) (a : Int) (hg : InGood l a) (he : inB l a = s.data.toList) : Tot (fun k => impl_ParseInstrument.f k s) (fun r => r = (l, a, true)) := by
  have hlen := bs_len s
  have hn := hg.2
  have hs : s.size ≤ 100 := by rw [← hlen, ← he]; exact inB_len l a hg
  obtain ⟨b, hb, hb2⟩ := suffix_eq s (by omega)
  have hp : s.data.toList = Lib.join (inW l a) [32] ++ [10] := he.symm
  obtain ⟨t2, h1, ht2⟩ := implPI_go s (by omega) _ hp
  rw [sp_line l a hg] at ht2
  have hs1 : 1 ≤ s.size := by have := congrArg List.length hp; rw [List.length_append, List.length_singleton] at this; omega
  unfold impl_ParseInstrument.f
  refine tneg (by omega) ?_
  rw [hb]
  simp only [Option.bind_some]
  rw [hb2.2 ⟨_, hp⟩]
  refine tstep ?_
  simp only [impl_ParseInstrument.j0]
  refine tneg (by simp) ?_
  rw [wrap64_id (x := (s.size : Int) - 1) (by omega) (by omega), h1]
  refine tpos (by omega) (tpos (by omega) ?_)
  simp only [Option.bind_some]
  have hl2 : t2.length = l.length + 1 := by have := congrArg List.length ht2; simpa [inW] using this
  rw [wrap64_id (x := (t2.length : Int) - 1) (by omega) (by omega), show (t2.length : Int) - 1 = (l.length : Int) by omega]
  refine tpos (by omega) (tpos (by omega) ?_)
  have hlast := map_rd2 t2 _ ht2 l.length (by omega)
  rw [inW_last] at hlast
  have h6 := dec6 a.toNat (by omega)
  have hq := congrArg List.length hlast
  rw [bs_len, bs_len] at hq
  refine tbind (decimal_tot _ (by omega)) (fun m g => ?_)
  have hm := g.1 ⟨by rw [hlast]; exact (decText_can _).1, by omega⟩
  rw [hlast, (decText_can _).2, show ((a.toNat : Nat) : Int) = a by omega] at hm
  subst hm
  refine tpos (by trivial) (tpos (by omega) ?_)
  simp only [Int.toNat_natCast]
  have hl3 : (t2.take l.length).length = l.length := by rw [List.length_take]; omega
  rw [hl3]
  refine trec (σ := Nat) (fun i k => impl_ParseInstrument.l0 k (t2.take l.length) (l.length : Int) (i : Int) (l.take i) a) (fun i => l.length - i) (fun i => i ≤ l.length) (fun _ r => r = (l, a, true)) ?_ 0 (Nat.zero_le _)
  intro i hi ih
  simp only [impl_ParseInstrument.l0]
  refine tite (fun c => ?_) (fun c => ?_)
  · have hi2 : i < l.length := by omega
    have hp := in_mem l a hg (rd l i) (by rw [rd_in l i hi2]; exact List.getElem_mem hi2)
    have hw := map_rd2 t2 _ ht2 i (by omega)
    rw [inW_at l a i hi2] at hw
    have hrd : rdOf ByteArray.empty (t2.take l.length) (i : Int) = rdOf ByteArray.empty t2 (i : Int) := by
      unfold rdOf
      rw [List.getD_eq_getElem?_getD, List.getD_eq_getElem?_getD, List.getElem?_take_of_lt (by omega)]
    refine tpos (by omega) (tpos (by omega) ?_)
    rw [hrd]
    refine tbind (pitchNamed_tot _) (fun p h => ?_)
    rw [hw] at h
    unfold pb at h
    rw [fpf_hit _ 73 24 (by omega) (by omega) (by omega) (by omega)] at h
    simp only [Option.getD_some] at h
    subst h
    refine tpos (by rw [List.length_take]; omega) ?_
    rw [wrap64_id (by omega) (by omega)]
    have := ih (i + 1) (by omega) (by omega)
    rw [take_in l i hi2] at this
    exact this
  · obtain rfl : i = l.length := by omega
    rw [List.take_length]
    exact tbind (isInstrument_tot l a (by omega)) (fun b hb => tpos (hb.2 hg) (tsome rfl))
theorem implPI_miss (s : ByteArray) (hs : s.size ≤ 1048576) (hno : ∀ (l : List Int) (a : Int), InGood l a → inB l a ≠ s.data.toList) : Tot (fun k => impl_ParseInstrument.f k s) (fun r => r = ([], 0, false)) := by
  have hlen := bs_len s
  have hF : Tot (fun k => impl_ParseInstrument.j0 k s true) (fun r => r = ([], 0, false)) := by
    refine tstep ?_
    simp only [impl_ParseInstrument.j0]
    exact tpos trivial (tsome rfl)
  unfold impl_ParseInstrument.f
  refine tite (fun c => hF) (fun c200 => ?_)
  obtain ⟨b, hb, hb2⟩ := suffix_eq s hs
  rw [hb]
  simp only [Option.bind_some]
  by_cases hbt : b = true
  case neg => rw [Bool.eq_false_iff.2 hbt]; exact hF
  subst hbt
  obtain ⟨p, hp⟩ := hb2.1 rfl
  obtain ⟨t2, h1, ht2⟩ := implPI_go s (by omega) p hp
  have hpl := congrArg List.length hp
  rw [List.length_append, List.length_singleton] at hpl
  refine tstep ?_
  simp only [impl_ParseInstrument.j0]
  refine tneg (by simp) ?_
  rw [wrap64_id (x := (s.size : Int) - 1) (by omega) (by omega), h1]
  refine tpos (by omega) (tpos (by omega) ?_)
  simp only [Option.bind_some]
  have pos : 0 < t2.length := by
    have := congrArg List.length ht2
    have h2 : (sp 32 p).length ≠ 0 := fun e => sp_ne 32 p (List.eq_nil_of_length_eq_zero e)
    rw [List.length_map] at this
    omega
  have hmax : t2.length ≤ 1048576 := by have := congrArg List.length ht2; rw [List.length_map] at this; have := sp_len 32 p; omega
  obtain ⟨n, hn⟩ : ∃ n, t2.length = n + 1 := ⟨t2.length - 1, by omega⟩
  rw [wrap64_id (x := (t2.length : Int) - 1) (by omega) (by omega), show (t2.length : Int) - 1 = (n : Int) by omega]
  refine tpos (by omega) (tpos (by omega) ?_)
  have z2 := rd_mem_size1 ht2 (n : Int)
  have hlast := map_rd2 t2 _ rfl n (by omega)
  refine tbind (decimal_tot _ (by omega)) (fun m g => ?_)
  refine tite (fun k1 => ?_) (fun _ => tsome rfl)
  obtain ⟨d1, _, d2⟩ := g.2 k1
  refine tpos (by omega) ?_
  simp only [Int.toNat_natCast]
  have hlt : (t2.take n).length = n := by rw [List.length_take]; omega
  rw [hlt]
  refine trec (σ := List Int × Nat) (fun q k => impl_ParseInstrument.l0 k (t2.take n) (n : Int) (q.2 : Int) q.1 m.1) (fun q => n - q.2) (fun q => q.2 ≤ n ∧ q.1.length = q.2 ∧ ((∀ x ∈ q.1, x ≠ 0) → q.1.map pb = (t2.map (·.data.toList)).take q.2)) (fun _ r => r = ([], 0, false)) ?_ ([], 0) ⟨Nat.zero_le _, rfl, by simp⟩
  rintro ⟨acc, i⟩ ⟨h3, h4, h5⟩ ih
  dsimp only at h3 h4 h5 ⊢
  simp only [impl_ParseInstrument.l0]
  refine tite (fun c => ?_) (fun c => ?_)
  · have hi : i < n := by omega
    have hw := map_rd2 t2 _ rfl i (by omega)
    have hrd : rdOf ByteArray.empty (t2.take n) (i : Int) = rdOf ByteArray.empty t2 (i : Int) := by
      unfold rdOf
      rw [List.getD_eq_getElem?_getD, List.getD_eq_getElem?_getD, List.getElem?_take_of_lt (by omega)]
    refine tpos (by omega) (tpos (by omega) ?_)
    rw [hrd]
    refine tbind (pitchNamed_tot _) (fun q hq => ?_)
    refine tpos (by omega) ?_
    rw [wrap64_id (by omega) (by omega)]
    have := ih (acc ++ [q], i + 1) ⟨by dsimp only; omega, by simp; omega, fun hne => ?_⟩ (by dsimp only; omega)
    · simpa using this
    · dsimp only at hne ⊢
      rw [List.map_append, h5 (fun e he => hne e (List.mem_append_left _ he)), List.map_cons, List.map_nil, List.take_add_one, List.getElem?_eq_getElem (by rw [List.length_map]; omega)]
      congr 1
      simp only [Option.toList_some, List.cons.injEq, and_true]
      have hq0 : q ≠ 0 := hne q (by simp)
      have e1 : pb q = (rdOf ByteArray.empty t2 (i : Int)).data.toList := by
        cases hf : fpf (rdOf ByteArray.empty t2 (i : Int)).data.toList 73 24 with
        | none => rw [hf] at hq; exact absurd hq hq0
        | some x =>
          rw [hf] at hq
          simp only [Option.getD_some] at hq
          unfold pb
          rw [hq]
          exact (fpf_some _ _ _ _ hf).2.2
      rw [e1, hw, List.getD_eq_getElem?_getD, List.getElem?_eq_getElem (by rw [List.length_map]; omega)]
      rfl
  · obtain rfl : i = n := by omega
    refine tbind (isInstrument_tot acc m.1 (by omega)) (fun b hb => ?_)
    refine tite (fun c2 => ?_) (fun _ => tsome rfl)
    have hg := hb.1 c2
    have h6 := h5 (fun x hx => by have := in_mem acc m.1 hg x hx; omega)
    refine absurd ?_ (hno acc m.1 hg)
    unfold inB inW
    rw [hp, h6, d2, Int.toNat_natCast, decText_bytes, can_dec _ d1, hlast]
    have e2 : (t2.map (·.data.toList)).take i ++ [(t2.map (·.data.toList)).getD i []] = t2.map (·.data.toList) := by
      rw [List.getD_eq_getElem?_getD, List.getElem?_eq_getElem (by rw [List.length_map]; omega), Option.getD_some]
      have := List.take_add_one (l := t2.map (·.data.toList)) (i := i)
      rw [List.getElem?_eq_getElem (by rw [List.length_map]; omega)] at this
      simp only [Option.toList_some] at this
      rw [← this, List.take_of_length_le (by rw [List.length_map]; omega)]
    rw [e2, ht2, sp_join]
theorem parseInstrument_agree (s : ByteArray) (hs : s.size ≤ 1048576) : ∃ r, Tot (fun k => spec_ParseInstrument.f k s) (fun y => y = r) ∧ Tot (fun k => impl_ParseInstrument.f k s) (fun y => y = r) ∧ r.1.length ≤ 1048576 := by
  by_cases h : ∃ (l : List Int) (a : Int), InGood l a ∧ inB l a = s.data.toList
  · obtain ⟨l, a, hg, he⟩ := h
    exact ⟨(l, a, true), specPI_hit s hs l a hg he, implPI_hit s l a hg he, by have := hg.2; dsimp only; omega⟩
  · have hno : ∀ (l : List Int) (a : Int), InGood l a → inB l a ≠ s.data.toList := fun l a hg he => h ⟨l, a, hg, he⟩
    exact ⟨([], 0, false), specPI_miss s hs hno, implPI_miss s hs hno, Nat.zero_le _⟩
theorem u64r (x : Int) : 0 ≤ IntKind.u64.wrap x ∧ IntKind.u64.wrap x < 18446744073709551616 := by
  have h : IntKind.u64.wrap x = x % 18446744073709551616 := by first | rfl | (unfold IntKind.wrap; rfl) | simp [IntKind.wrap]
  rw [h]; omega
theorem and255 (x : Int) (h0 : 0 ≤ x) (h1 : x < 18446744073709551616) : 0 ≤ bits .and .u64 x 255 ∧ bits .and .u64 x 255 ≤ 255 := by
  obtain ⟨n, rfl⟩ := Int.eq_ofNat_of_zero_le h0
  have h := bits_and_u64_nat n 255 (by omega) (by omega)
  have h2 : n &&& 255 ≤ 255 := Nat.and_le_right
  rw [show ((255 : Nat) : Int) = 255 from rfl] at h
  rw [h]; omega
def Bytes (l : List Int) : Prop := (∀ x ∈ l, 0 ≤ x ∧ x ≤ 255) ∧ l.length ≤ 1048576
def StA (b : Nat) (a : Int) : Prop := 0 ≤ a ∧ a ≤ (b : Int) ∧ b ≤ 1000000
theorem StA.up {b c : Nat} {a : Int} (h : StA b a) (hbc : b ≤ c) (hc : c ≤ 1000000) : StA c a := ⟨h.1, by have := h.2.1; omega, hc⟩
theorem rd_byte (l : List Int) (h : Bytes l) (i : Int) : 0 ≤ rd l i ∧ rd l i ≤ 255 := by
  unfold rd
  rw [List.getD_eq_getElem?_getD]
  by_cases c : i.toNat < l.length
  · rw [List.getElem?_eq_getElem c]; exact h.1 _ (List.getElem_mem c)
  · rw [List.getElem?_eq_none (by omega)]; exact ⟨Int.le_refl _, by decide⟩
theorem draw_next (l : List Int) (hl : Bytes l) (b : Nat) (a s : Int) (h : StA b a) (hb : b + 1 ≤ 1000000) : ∃ v a' s', spec_l1Cur_next.f l a s = some (v, a', s') ∧ (0 ≤ v ∧ v ≤ 255) ∧ StA (b + 1) a' := by
  have hw : wrap64 (a + 1) = a + 1 := wrap64_id (by have := h.1; omega) (by have := h.2.1; omega)
  have hS : StA (b + 1) (a + 1) := ⟨by have := h.1; omega, by have := h.2.1; omega, hb⟩
  have hr := rd_byte l hl a
  have hwr : wrap64 (rd l a) = rd l a := wrap64_id (by omega) (by omega)
  have hx : ∀ x : Int, 0 ≤ wrap64 (bits .and .u64 (IntKind.u64.wrap x / 1099511627776) 255) ∧ wrap64 (bits .and .u64 (IntKind.u64.wrap x / 1099511627776) 255) ≤ 255 := fun x => by
    have h1 := u64r x
    have h2 := and255 (IntKind.u64.wrap x / 1099511627776) (by omega) (by omega)
    rw [wrap64_id (by omega) (by omega)]; exact h2
  unfold spec_l1Cur_next.f
  rw [hw]
  by_cases c1 : a < (l.length : Int)
  · rw [if_pos c1, if_pos h.1]
    by_cases c2 : a + 1 ≤ (l.length : Int)
    · rw [if_pos c2]; exact ⟨_, _, _, rfl, by rw [hwr]; exact hr, hS⟩
    · rw [if_neg c2]; exact ⟨_, _, _, rfl, hx _, hS⟩
  · rw [if_neg c1]
    by_cases c2 : a + 1 ≤ (l.length : Int)
    · rw [if_pos c2]; exact ⟨_, _, _, rfl, ⟨Int.le_refl _, by decide⟩, hS⟩
    · rw [if_neg c2]; exact ⟨_, _, _, rfl, hx _, hS⟩
theorem draw_pick (l : List Int) (hl : Bytes l) (b : Nat) (a s n : Int) (h : StA b a) (hb : b + 2 ≤ 1000000) : ∃ v a' s', spec_l1Cur_pick.f l a s n = some (v, a', s') ∧ (0 ≤ v ∧ (v = 0 ∨ v < n)) ∧ StA (b + 2) a' := by
  unfold spec_l1Cur_pick.f
  by_cases c1 : n ≤ 1
  · rw [if_pos c1]; exact ⟨_, _, _, rfl, ⟨Int.le_refl _, Or.inl rfl⟩, h.up (by omega) hb⟩
  · rw [if_neg c1]
    obtain ⟨v, a', s', e, hv, h'⟩ := draw_next l hl b a s h (by omega)
    rw [e, Option.bind_some]
    by_cases c2 : n > 200
    · rw [if_pos c2]
      obtain ⟨v2, a2, s2, e2, hv2, h2⟩ := draw_next l hl (b + 1) a' s' h' (by omega)
      rw [e2, Option.bind_some, if_neg (by omega)]
      have hw1 : wrap64 (v * 256) = v * 256 := wrap64_id (by omega) (by omega)
      have hw2 : wrap64 (v * 256 + v2) = v * 256 + v2 := wrap64_id (by omega) (by omega)
      refine ⟨_, _, _, rfl, ?_, h2⟩
      simp only [hw1, hw2]
      exact ⟨Int.tmod_nonneg _ (by omega), Or.inr (Int.tmod_lt_of_pos _ (by omega))⟩
    · rw [if_neg c2, if_neg (by omega)]
      exact ⟨_, _, _, rfl, ⟨Int.tmod_nonneg _ hv.1, Or.inr (Int.tmod_lt_of_pos _ (by omega))⟩, h'.up (by omega) hb⟩
theorem draw_among (l : List Int) (hl : Bytes l) (b : Nat) (a s : Int) (xs : List Int) (hx : 0 < xs.length) (h : StA b a) (hb : b + 2 ≤ 1000000) : ∃ v a' s', spec_l1Cur_among.f l a s xs = some (v, a', s') ∧ v ∈ xs ∧ StA (b + 2) a' := by
  unfold spec_l1Cur_among.f
  obtain ⟨v, a', s', e, hv, h'⟩ := draw_pick l hl b a s (xs.length : Int) h hb
  rw [e, Option.bind_some, if_pos hv.1, if_pos (by omega)]
  refine ⟨_, _, _, rfl, ?_, h'⟩
  unfold rd
  have hi : v.toNat < xs.length := by omega
  simp only [List.getD_eq_getElem?_getD, List.getElem?_eq_getElem hi, Option.getD_some]
  exact List.getElem_mem hi
theorem draw_one (l : List Int) (hl : Bytes l) (b : Nat) (a s n : Int) (h : StA b a) (hb : b + 2 ≤ 1000000) : ∃ v a' s', spec_l1Cur_one.f l a s n = some (v, a', s') ∧ StA (b + 2) a' := by
  unfold spec_l1Cur_one.f
  obtain ⟨v, a', s', e, _, h'⟩ := draw_pick l hl b a s n h hb
  rw [e, Option.bind_some]
  exact ⟨_, _, _, rfl, h'⟩
theorem newCur_eq (l : List Int) : newCur.f l = some (l, 0, 0) := rfl
theorem st0 : StA 0 0 := ⟨Int.le_refl _, Int.le_refl _, by decide⟩
theorem tconf {α : Type} {g : Nat → Option α} {r : α} {Q : α → Prop} (h : Tot g (fun y => y = r)) (k : Tot g Q) : Q r := by
  obtain ⟨a, _, h1, h2⟩ := tand h k
  rw [← h1]; exact h2
theorem small8 {n : Nat} (h : n ≤ 5000) : n < 17592186044416 := Nat.lt_of_le_of_lt h (by decide)
theorem draw_ins_l1 (l : List Int) (a s q : Int) : ∀ (d : Nat) (x : List Int), x.length + d = 20 → Tot (fun k => spec_l1Cur_instrument.l1 k l a s x q) (fun r => (1 ≤ r.1.length ∧ r.1.length ≤ 100) ∧ r.2.2.1 = a)
  | 0, x, h => by
    refine tstep ?_
    simp only [spec_l1Cur_instrument.l1]
    exact tneg (by omega) (tsome ⟨⟨by (try dsimp only); omega, by (try dsimp only); omega⟩, rfl⟩)
  | d + 1, x, h => by
    refine tstep ?_
    simp only [spec_l1Cur_instrument.l1]
    exact tpos (by omega) (tpos (small8 (by omega)) (draw_ins_l1 l a s q d _ (by simp; omega)))
theorem draw_ins_j3 (l : List Int) (hl : Bytes l) (b : Nat) (hb : b + 2 ≤ 1000000) (x : List Int) (hx : 1 ≤ x.length ∧ x.length ≤ 40) (a s q : Int) (h : StA b a) : Tot (fun k => spec_l1Cur_instrument.j3 k l a s x q) (fun r => (1 ≤ r.1.length ∧ r.1.length ≤ 100) ∧ StA (b + 2) r.2.2.1) := by
  refine tstep ?_
  simp only [spec_l1Cur_instrument.j3]
  obtain ⟨v1, a1, s1, e1, h1⟩ := draw_one l hl b a s 20 h (by omega)
  rw [e1]
  refine tlet ?_
  try dsimp only
  exact tite (fun _ => tmono (draw_ins_l1 l a1 s1 q 20 [] (by simp)) (fun r hr => ⟨hr.1, by rw [hr.2]; exact h1⟩)) (fun _ => tsome ⟨⟨hx.1, by have := hx.2; dsimp only; omega⟩, h1⟩)
theorem draw_ins_j2 (l : List Int) (hl : Bytes l) (b : Nat) (hb : b + 4 ≤ 1000000) (x : List Int) (hx : 1 ≤ x.length ∧ x.length ≤ 40) (a s q : Int) (h : StA b a) : Tot (fun k => spec_l1Cur_instrument.j2 k l a s x q) (fun r => (1 ≤ r.1.length ∧ r.1.length ≤ 100) ∧ StA (b + 4) r.2.2.1) := by
  refine tstep ?_
  simp only [spec_l1Cur_instrument.j2]
  obtain ⟨v1, a1, s1, e1, h1⟩ := draw_one l hl b a s 12 h (by omega)
  rw [e1]
  refine tlet ?_
  try dsimp only
  exact tite (fun _ => draw_ins_j3 l hl (b + 2) (by omega) [60] (by simp) a1 s1 q h1) (fun _ => draw_ins_j3 l hl (b + 2) (by omega) x hx a1 s1 q h1)
theorem draw_ins_j1 (l : List Int) (hl : Bytes l) (b : Nat) (hb : b + 8 ≤ 1000000) (t : Bool) (x : List Int) (hx : x.length ≤ 30) (ht : t = false → 1 ≤ x.length) (a s q : Int) (h : StA b a) : Tot (fun k => spec_l1Cur_instrument.j1 k t l a s x q) (fun r => (1 ≤ r.1.length ∧ r.1.length ≤ 100) ∧ StA (b + 8) r.2.2.1) := by
  refine tstep ?_
  simp only [spec_l1Cur_instrument.j1]
  refine tite (fun _ => ?_) (fun c => tmono (draw_ins_j2 l hl b (by omega) x ⟨ht (by simpa using c), by omega⟩ a s q h) (fun r hr => ⟨hr.1, hr.2.up (by omega) (by omega)⟩))
  obtain ⟨v1, a1, s1, e1, _, h1⟩ := draw_pick l hl b a s 73 h (by omega)
  rw [e1]
  refine tlet ?_
  try dsimp only
  obtain ⟨v2, a2, s2, e2, _, h2⟩ := draw_among l hl (b + 2) a1 s1 [24, 96, wrap64 (24 + v1)] (by simp) h1 (by omega)
  rw [e2]
  refine tlet ?_
  try dsimp only
  refine tbind (l1Put_tot x v2 (by omega)) (fun y hy => ?_)
  subst hy
  have := putL_len v2 x
  exact draw_ins_j2 l hl (b + 2 + 2) (by omega) (putL v2 x) ⟨this.1, by omega⟩ a2 s2 q h2
theorem draw_ins_l0 (l : List Int) (hl : Bytes l) (X : List Int) (hX : X.length ≤ 20) (q : Int) (b : Nat) (hb : b + 50 ≤ 1000000) : ∀ (d i : Nat) (x : List Int) (a s : Int), i + d = X.length → x.length ≤ i → StA (b + 2 * i) a →
    Tot (fun k => spec_l1Cur_instrument.l0 k X (X.length : Int) (i : Int) l a s x q) (fun r => (1 ≤ r.1.length ∧ r.1.length ≤ 100) ∧ StA (b + 50) r.2.2.1)
  | 0, i, x, a, s, hi, hx, h => by
    refine tstep ?_
    simp only [spec_l1Cur_instrument.l0]
    refine tneg (by omega) ?_
    obtain ⟨v1, a1, s1, e1, h1⟩ := draw_one l hl (b + 2 * i) a s 4 h (by omega)
    rw [e1]
    refine tlet ?_
    try dsimp only
    have go : ∀ t : Bool, (t = false → 1 ≤ x.length) → Tot (fun k => spec_l1Cur_instrument.j1 k t l a1 s1 x q) (fun r => (1 ≤ r.1.length ∧ r.1.length ≤ 100) ∧ StA (b + 50) r.2.2.1) := fun t ht => tmono (draw_ins_j1 l hl (b + 2 * i + 2) (by omega) t x (by omega) ht a1 s1 q h1) (fun r hr => ⟨hr.1, hr.2.up (by omega) (by omega)⟩)
    exact tite (fun _ => go _ (fun e => by cases e)) (fun _ => go _ (fun e => by simp at e; cases x with
      | nil => simp at e
      | cons y ys => simp))
  | d + 1, i, x, a, s, hi, hx, h => by
    have hw : wrap64 ((i : Int) + 1) = ((i + 1 : Nat) : Int) := by rw [wrap64_id (by omega) (by omega)]; omega
    refine tstep ?_
    simp only [spec_l1Cur_instrument.l0, hw]
    refine tpos (by omega) (tpos (Int.natCast_nonneg i) (tpos (by omega) ?_))
    obtain ⟨v1, a1, s1, e1, h1⟩ := draw_one l hl (b + 2 * i) a s 4 h (by omega)
    rw [e1]
    refine tlet ?_
    try dsimp only
    exact tite (fun _ => draw_ins_l0 l hl X hX q b hb d (i + 1) x a1 s1 (by omega) (by omega) h1) (fun _ => tpos (small8 (by omega)) (draw_ins_l0 l hl X hX q b hb d (i + 1) _ a1 s1 (by omega) (by simp; omega) h1))
theorem draw_instrument (l : List Int) (hl : Bytes l) (b : Nat) (a s : Int) (h : StA b a) (hb : b + 60 ≤ 1000000) : Tot (fun k => spec_l1Cur_instrument.f k l a s) (fun r => (1 ≤ r.1.length ∧ r.1.length ≤ 100) ∧ StA (b + 60) r.2.2.1) := by
  unfold spec_l1Cur_instrument.f
  obtain ⟨v1, a1, s1, e1, _, h1⟩ := draw_among l hl b a s [1, 1, 2, 3, 4, 8, 20] (by simp) h (by omega)
  rw [e1]
  refine tlet ?_
  try dsimp only
  refine tlet ?_
  exact tmono (draw_ins_l0 l hl _ (by simp) v1 (b + 2) (by omega) 15 0 [] a1 s1 (by simp) (by simp) h1) (fun r hr => ⟨hr.1, hr.2.up (by omega) (by omega)⟩)
theorem draw_anyIns_l0 (l : List Int) (a s q : Int) : ∀ (d : Nat) (x : List Int), x.length + d = 21 → Tot (fun k => spec_l1Cur_anyInstrument.l0 k l a s x q) (fun r => r.1.length ≤ 100 ∧ r.2.2.1 = a)
  | 0, x, h => by
    refine tstep ?_
    simp only [spec_l1Cur_anyInstrument.l0]
    exact tneg (by omega) (tsome ⟨by (try dsimp only); omega, rfl⟩)
  | d + 1, x, h => by
    refine tstep ?_
    simp only [spec_l1Cur_anyInstrument.l0]
    exact tpos (by omega) (tpos (small8 (by omega)) (draw_anyIns_l0 l a s q d _ (by simp; omega)))
theorem draw_anyInstrument (l : List Int) (hl : Bytes l) (b : Nat) (a s : Int) (h : StA b a) (hb : b + 70 ≤ 1000000) : Tot (fun k => spec_l1Cur_anyInstrument.f k l a s) (fun r => r.1.length ≤ 100 ∧ StA (b + 70) r.2.2.1) := by
  unfold spec_l1Cur_anyInstrument.f
  refine tbind (draw_instrument l hl b a s h (by omega)) (fun r hr => ?_)
  obtain ⟨x, q, a1, s1⟩ := r
  obtain ⟨⟨hx1, hx2⟩, h1⟩ := hr
  dsimp only at hx1 hx2 h1
  obtain ⟨v2, a2, s2, e2, _, h2⟩ := draw_pick l hl (b + 60) a1 s1 30 h1 (by omega)
  rw [e2]
  refine tlet ?_
  try dsimp only
  refine tite (fun _ => ?_) (fun _ => tite (fun _ => ?_) (fun _ => tite (fun _ => ?_) (fun _ => tite (fun _ => ?_) (fun _ => ?_))))
  · obtain ⟨v3, a3, s3, e3, _, h3⟩ := draw_among l hl (b + 60 + 2) a2 s2 [0, 21] (by simp) h2 (by omega)
    rw [e3]
    refine tlet ?_
    try dsimp only
    exact tsome ⟨hx2, h3.up (by omega) (by omega)⟩
  · obtain ⟨v3, a3, s3, e3, hv3, h3⟩ := draw_pick l hl (b + 60 + 2) a2 s2 (x.length : Int) h2 (by omega)
    rw [e3]
    refine tlet ?_
    try dsimp only
    obtain ⟨v4, a4, s4, e4, _, h4⟩ := draw_among l hl (b + 60 + 2 + 2) a3 s3 [23, 60, 97] (by simp) h3 (by omega)
    rw [e4]
    refine tlet ?_
    try dsimp only
    exact tpos hv3.1 (tpos (by (try dsimp only); omega) (tsome ⟨by simp; omega, h4.up (by omega) (by omega)⟩))
  · exact tsome ⟨by simp, h2.up (by omega) (by omega)⟩
  · exact tmono (draw_anyIns_l0 l a2 s2 q 21 [] (by simp)) (fun r hr => ⟨hr.1, by rw [hr.2]; exact h2.up (by omega) (by omega)⟩)
  · exact tsome ⟨hx2, h2.up (by omega) (by omega)⟩
theorem qInts_refl (l : List Int) (hl : l.length ≤ 1048576) : Tot (fun k => laws_qInts.f k l l) (fun r => r = true) := by
  unfold laws_qInts.f
  refine tpos rfl ?_
  refine trec (σ := Int) (fun i k => laws_qInts.l0 k l l (l.length : Int) i) (fun i => ((l.length : Int) - i).toNat) (fun i => 0 ≤ i ∧ i ≤ (l.length : Int)) (fun _ r => r = true) ?_ 0 ⟨Int.le_refl _, by omega⟩
  rintro i ⟨h0, h1⟩ ih
  simp only [laws_qInts.l0]
  refine tite (fun c => ?_) (fun c => tsome rfl)
  refine tpos h0 (tpos c (tpos c (tpos (by trivial) ?_)))
  rw [wrap64_id (by omega) (by omega)]
  exact ih (i + 1) ⟨by omega, by omega⟩ (by (try dsimp only); omega)
theorem qHas_tot (l : List Int) (x : Int) (hl : l.length ≤ 1048576) : Tot (fun k => laws_qHas.f k l x) (fun r => r = true ↔ x ∈ l) := by
  unfold laws_qHas.f
  refine trec (σ := Int) (fun i k => laws_qHas.l0 k x l (l.length : Int) i) (fun i => ((l.length : Int) - i).toNat) (fun i => 0 ≤ i ∧ i ≤ (l.length : Int) ∧ ∀ j : Int, 0 ≤ j → j < i → rd l j ≠ x) (fun _ r => r = true ↔ x ∈ l) ?_ 0 ⟨Int.le_refl _, by omega, fun j h0 h1 => by omega⟩
  rintro i ⟨h0, h1, h2⟩ ih
  simp only [laws_qHas.l0]
  refine tite (fun c => ?_) (fun c => tsome ⟨(fun h => by cases h), fun h => ?_⟩)
  · refine tpos h0 (tpos c (tite (fun e => tsome ⟨fun _ => by rw [← e]; exact ld_mem i c h0, fun _ => rfl⟩) (fun e => ?_)))
    rw [wrap64_id (by omega) (by omega)]
    exact ih (i + 1) ⟨by omega, by omega, fun j j0 j1 => by
      by_cases q : j = i
      · rw [q]; exact e
      · exact h2 j j0 (by omega)⟩ (by (try dsimp only); omega)
  · obtain ⟨k, hk, rfl⟩ := List.getElem_of_mem h
    exact absurd (by unfold rd; rw [List.getD_eq_getElem?_getD]; simp [hk]) (h2 (k : Int) (by omega) (by omega))
theorem trackOf_has (l : List Int) (a x : Int) (hl : l.length ≤ 1048576) (hg : InGood l a) (hx : 24 ≤ x ∧ x ≤ 96) : Tot (fun k => impl_TrackOf.f k l a x) (fun y => y.2 = true ↔ x ∈ l) := by
  unfold impl_TrackOf.f
  refine tbind (isInstrument_tot l a hl) (fun b hb => tpos (hb.2 hg) ?_)
  simp only [isPitch_eq, Option.bind_some]
  rw [decide_eq_true hx, Bool.not_true]
  refine tstep ?_
  simp only [impl_TrackOf.j0]
  refine tneg (by simp) (tbind (slicesIndex_tot l x hl) (fun r hr => ?_))
  have hn := hr.neg
  exact tite (fun c => tsome ⟨(fun h => by cases h), fun h => absurd h (hn.1 c)⟩) (fun c => tsome ⟨fun _ => Classical.byContradiction fun h => c (hn.2 h), fun _ => rfl⟩)
theorem putLm (n y : Int) (l : List Int) : y ∈ putL n l ↔ y = n ∨ y ∈ l := by
  induction l with
  | nil => simp [putL]
  | cons x xs ih =>
    unfold putL
    split
    · simp only [List.mem_cons, ih]
      exact ⟨fun h => by rcases h with h | h | h <;> simp [h], fun h => by rcases h with h | h | h <;> simp [h]⟩
    · split
      · rename_i c; subst c; simp
      · simp
theorem putL_new (n : Int) (l : List Int) (h : ¬ n ∈ l) : (putL n l).length = l.length + 1 := by
  induction l with
  | nil => rfl
  | cons x xs ih =>
    rw [List.mem_cons, not_or] at h
    unfold putL
    split
    · rw [List.length_cons, ih h.2, List.length_cons]
    · rw [if_neg (fun e => h.1 e.symm)]; rfl
theorem inGood_iff (l : List Int) (a : Int) : InGood l a ↔ (∀ x ∈ l, 24 ≤ x ∧ x ≤ 96) ∧ l.Pairwise (· < ·) ∧ (1 ≤ l.length ∧ l.length ≤ 20) ∧ (1 ≤ a ∧ a ≤ 20) := by
  constructor
  · intro h
    have hn := h.2
    exact ⟨in_mem l a h, inGood_strict l a h, by omega, by omega⟩
  · rintro ⟨h1, h2, h3, h4⟩
    rw [List.pairwise_iff_getElem] at h2
    refine ⟨fun j j0 j1 => ?_, by omega, by omega, h4.1, h4.2⟩
    obtain ⟨n, rfl⟩ := Int.eq_ofNat_of_zero_le j0
    have hn : n < l.length := by omega
    unfold InC
    rw [rd_in l n hn]
    have := h1 _ (List.getElem_mem hn)
    refine ⟨this.1, this.2, fun hj => ?_⟩
    rw [show ((n : Nat) : Int) - 1 = ((n - 1 : Nat) : Int) by omega, rd_in l (n - 1) (by omega)]
    exact h2 (n - 1) n (by omega) hn (by omega)
theorem inGood_put (l : List Int) (a x : Int) (hg : InGood l a) (hx : 24 ≤ x ∧ x ≤ 96) (hn : ¬ x ∈ l) (hl : (l.length : Int) ≠ 20) : InGood (putL x l) a := by
  rw [inGood_iff] at *
  obtain ⟨h1, h2, h3, h4⟩ := hg
  refine ⟨fun y hy => ?_, putL_sorted x l h2, by rw [putL_new x l hn]; omega, h4⟩
  rcases (putLm x y l).1 hy with rfl | h
  · exact hx
  · exact h1 y h
theorem idx_at (l : List Int) (h : l.Pairwise (· < ·)) (x r : Int) (hr : Idx l x 0 r) (k : Int) (k0 : 0 ≤ k) (k1 : k < (l.length : Int)) (hk : rd l k = x) : r = k := by
  obtain ⟨n, rfl⟩ := Int.eq_ofNat_of_zero_le k0
  have hn : n < l.length := by omega
  rcases hr with ⟨_, h2⟩ | ⟨h0, h1, h2, h3⟩
  · exact absurd hk (h2 _ k0 k1)
  · obtain ⟨m, rfl⟩ := Int.eq_ofNat_of_zero_le h0
    rw [List.pairwise_iff_getElem] at h
    rw [rd_in l n hn] at hk
    rw [rd_in l m (by omega)] at h2
    rcases Nat.lt_trichotomy m n with c | c | c
    · have := h m n (by omega) hn c; omega
    · omega
    · have := h n m hn (by omega) c; omega
theorem com_mem (a b : List Int) (y : Int) : ∀ n : Nat, n ≤ a.length → (y ∈ comUpto a b n ↔ (∃ j : Nat, j < n ∧ rd a (j : Int) = y) ∧ y ∈ b)
  | 0, _ => by simp [comUpto]
  | n + 1, hn => by
    have ih := com_mem a b y n (by omega)
    unfold comUpto
    split
    · rename_i c
      rw [List.mem_append, ih, List.mem_singleton]
      constructor
      · rintro (⟨⟨j, h1, h2⟩, h3⟩ | h)
        · exact ⟨⟨j, by omega, h2⟩, h3⟩
        · exact ⟨⟨n, by omega, h.symm⟩, by rw [h]; exact c⟩
      · rintro ⟨⟨j, h1, h2⟩, h3⟩
        by_cases e : j = n
        · rw [e] at h2; exact .inr h2.symm
        · exact .inl ⟨⟨j, by omega, h2⟩, h3⟩
    · rename_i c
      rw [ih]
      refine and_congr_left (fun hy => ⟨fun ⟨j, h1, h2⟩ => ⟨j, by omega, h2⟩, fun ⟨j, h1, h2⟩ => ⟨j, ?_, h2⟩⟩)
      by_cases e : j = n
      · rw [e] at h2; exact absurd (h2 ▸ hy) c
      · omega
theorem com_all (a b : List Int) (y : Int) : y ∈ comUpto a b a.length ↔ y ∈ a ∧ y ∈ b := by
  rw [com_mem a b y a.length (Nat.le_refl _)]
  refine and_congr_left (fun _ => ⟨fun ⟨j, h1, h2⟩ => ?_, fun h => ?_⟩)
  · rw [← h2, rd_in a j h1]; exact List.getElem_mem h1
  · obtain ⟨j, hj, e⟩ := List.getElem_of_mem h
    exact ⟨j, hj, by rw [rd_in a j hj]; exact e⟩
theorem com_strict (a b : List Int) (h : a.Pairwise (· < ·)) : ∀ n : Nat, n ≤ a.length → (comUpto a b n).Pairwise (· < ·)
  | 0, _ => by simp [comUpto]
  | n + 1, hn => by
    have ih := com_strict a b h n (by omega)
    unfold comUpto
    split
    · refine List.pairwise_append.2 ⟨ih, by simp, fun x hx y hy => ?_⟩
      obtain ⟨⟨j, h1, h2⟩, _⟩ := (com_mem a b x n (by omega)).1 hx
      rw [List.mem_singleton] at hy
      rw [hy, ← h2, rd_in a j (by omega), rd_in a n (by omega)]
      exact List.pairwise_iff_getElem.1 h j n (by omega) (by omega) h1
    · exact ih
theorem com_sym (a b : List Int) (ha : a.Pairwise (· < ·)) (hb : b.Pairwise (· < ·)) : comUpto b a b.length = comUpto a b a.length :=
  strict_unique _ _ (com_strict b a hb _ (Nat.le_refl _)) (com_strict a b ha _ (Nat.le_refl _)) (fun y => by rw [com_all, com_all]; exact and_comm)
theorem text_post (l : List Int) (a : Int) (hl : l.length ≤ 1048576) : (InGood l a ∧ ∃ s : ByteArray, s.data.toList = inB l a ∧ s.size ≤ 1048576 ∧ Tot (fun k => spec_InstrumentText.f k l a) (fun y => y = (s, true)) ∧ Tot (fun k => impl_InstrumentText.f k l a) (fun y => y = (s, true))) ∨
    (¬ InGood l a ∧ Tot (fun k => spec_InstrumentText.f k l a) (fun y => y = (⟨#[]⟩, false)) ∧ Tot (fun k => impl_InstrumentText.f k l a) (fun y => y = (⟨#[]⟩, false))) := by
  by_cases hg : InGood l a
  · left
    refine ⟨hg, (insUpto l l.length ++ decText a.toNat) ++ (⟨#[10]⟩ : ByteArray), in_all l a, ?_, ?_, ?_⟩
    · have h1 := insUpto_size l a hg l.length (Nat.le_refl _)
      have h2 := (decText_size a.toNat (by have := hg.2; omega)).1
      have h3 := hg.2
      rw [ByteArray.size_append, ByteArray.size_append, show (⟨#[10]⟩ : ByteArray).size = 1 from rfl]
      omega
    · unfold spec_InstrumentText.f
      refine tbind (inGood_tot l a hl) (fun b h => tpos (h.2 hg) ?_)
      exact tbind (inText_tot l a hg) (fun _ e => by subst e; exact tsome rfl)
    · unfold impl_InstrumentText.f
      refine tbind (isInstrument_tot l a hl) (fun b h => tpos (h.2 hg) ?_)
      exact tbind (instrumentText_tot l a hg) (fun _ e => by subst e; exact tsome rfl)
  · right
    refine ⟨hg, ?_, ?_⟩
    · unfold spec_InstrumentText.f
      exact tbind (inGood_tot l a hl) (fun b h => tneg (fun hb => hg (h.1 hb)) (tsome rfl))
    · unfold impl_InstrumentText.f
      exact tbind (isInstrument_tot l a hl) (fun b h => tneg (fun hb => hg (h.1 hb)) (tsome rfl))
open Classical in
theorem trackOf_r (l : List Int) (a x : Int) (hl : l.length ≤ 1048576) : ∃ r0, Idx l x 0 r0 ∧ Tot (fun k => spec_TrackOf.f k l a x) (fun y => y = if InGood l a ∧ (24 ≤ x ∧ x ≤ 96) ∧ 0 ≤ r0 then (r0, true) else (0, false)) ∧ Tot (fun k => impl_TrackOf.f k l a x) (fun y => y = if InGood l a ∧ (24 ≤ x ∧ x ≤ 96) ∧ 0 ≤ r0 then (r0, true) else (0, false)) := by
  obtain ⟨r0, hr0, hi0⟩ := inTrack_tot l a x hl
  have h1 : Tot (fun k => spec_inTrack.f k l a x) (fun y => y = r0) := ⟨r0, hr0, rfl⟩
  have h2 : Tot (fun k => slices_Index_int_int.f k l x) (fun y => y = r0) := tmono (slicesIndex_tot l x hl) (fun r hr => hr.det hi0)
  refine ⟨r0, hi0, ?_, ?_⟩
  · unfold spec_TrackOf.f
    refine tbind (inGood_tot l a hl) (fun b hb => ?_)
    simp only [ntPitch_eq, Option.bind_some, decide_eq_true_eq]
    refine tite (fun c => ?_) (fun c => tsome (by rw [if_neg (fun h => c (hb.2 h.1))]))
    refine tite (fun c2 => ?_) (fun c2 => tsome (by rw [if_neg (fun h => c2 h.2.1)]))
    refine tbind h1 (fun _ e => ?_); subst e
    refine tite (fun c3 => tsome (by rw [if_neg (fun h => by have := h.2.2; omega)])) (fun c3 => ?_)
    refine tbind h1 (fun _ e => ?_); subst e
    exact tsome (by rw [if_pos ⟨hb.1 c, c2, by omega⟩])
  · have hF : Tot (fun k => impl_TrackOf.j0 k x true l a) (fun y => y = (0, false)) := by
      refine tstep ?_
      simp only [impl_TrackOf.j0, if_true]
      exact tsome rfl
    unfold impl_TrackOf.f
    refine tbind (isInstrument_tot l a hl) (fun b hb => ?_)
    simp only [isPitch_eq, Option.bind_some]
    refine tite (fun c => ?_) (fun c => tmono hF (fun y hy => by rw [hy, if_neg (fun h => c (hb.2 h.1))]))
    by_cases c2 : 24 ≤ x ∧ x ≤ 96
    · rw [decide_eq_true c2, Bool.not_true]
      refine tstep ?_
      simp only [impl_TrackOf.j0]
      refine tneg (by simp) ?_
      refine tbind h2 (fun _ e => ?_); subst e
      refine tite (fun c3 => tsome (by rw [if_neg (fun h => by have := h.2.2; omega)])) (fun c3 => ?_)
      exact tsome (by rw [if_pos ⟨hb.1 c, c2, by omega⟩])
    · rw [decide_eq_false c2, Bool.not_false]
      exact tmono hF (fun y hy => by rw [hy, if_neg (fun h => c2 h.2.1)])
open Classical in
theorem pitchOf_r (l : List Int) (a x : Int) (hl : l.length ≤ 1048576) : Tot (fun k => spec_PitchOf.f k l a x) (fun y => y = if InGood l a ∧ 0 ≤ x ∧ x < (l.length : Int) then (rd l x, true) else (0, false)) ∧ Tot (fun k => impl_PitchOf.f k l a x) (fun y => y = if InGood l a ∧ 0 ≤ x ∧ x < (l.length : Int) then (rd l x, true) else (0, false)) := by
  refine ⟨?_, ?_⟩
  · unfold spec_PitchOf.f
    refine tbind (inGood_tot l a hl) (fun b hb => ?_)
    rw [wrap64_id (by omega) (by omega)]
    simp only [l1In_eq, Option.bind_some, decide_eq_true_eq]
    refine tite (fun c => ?_) (fun c => tsome (by rw [if_neg (fun h => c (hb.2 h.1))]))
    refine tite (fun c2 => ?_) (fun c2 => tsome (by rw [if_neg (fun h => c2 (by omega))]))
    refine tpos (by omega) (tpos (by omega) ?_)
    exact tsome (by rw [if_pos ⟨hb.1 c, by omega⟩])
  · unfold impl_PitchOf.f
    refine tbind (isInstrument_tot l a hl) (fun b hb => ?_)
    refine tite (fun c => ?_) (fun c => tsome (by rw [if_neg (fun h => c (hb.2 h.1))]))
    refine tite (fun c2 => tsome (by rw [if_neg (fun h => by omega)])) (fun c2 => ?_)
    refine tite (fun c3 => tsome (by rw [if_neg (fun h => by omega)])) (fun c3 => ?_)
    refine tpos (by omega) (tpos (by omega) ?_)
    exact tsome (by rw [if_pos ⟨hb.1 c, by omega⟩])
theorem common_post (a : List Int) (x : Int) (b : List Int) (y : Int) (ha : a.length ≤ 1048576) (hb : b.length ≤ 1048576) : (InGood a x ∧ InGood b y ∧ Tot (fun k => spec_CommonPitches.f k a x b y) (fun z => z = (comUpto a b a.length, true)) ∧ Tot (fun k => impl_CommonPitches.f k a x b y) (fun z => z = (comUpto a b a.length, true))) ∨ (Tot (fun k => spec_CommonPitches.f k a x b y) (fun z => z = ([], false)) ∧ Tot (fun k => impl_CommonPitches.f k a x b y) (fun z => z = ([], false))) := by
  have sF : Tot (fun k => spec_CommonPitches.j0 k true a x b y) (fun z => z = ([], false)) := by
    refine tstep ?_
    simp only [spec_CommonPitches.j0, if_true]
    exact tsome rfl
  have iF : Tot (fun k => impl_CommonPitches.j0 k true a x b y) (fun z => z = ([], false)) := by
    refine tstep ?_
    simp only [impl_CommonPitches.j0, if_true]
    exact tsome rfl
  by_cases hg : InGood a x ∧ InGood b y
  · left
    refine ⟨hg.1, hg.2, ?_, ?_⟩
    · unfold spec_CommonPitches.f
      refine tbind (inGood_tot a x ha) (fun r1 h1 => tpos (h1.2 hg.1) ?_)
      refine tbind (inGood_tot b y hb) (fun r2 h2 => ?_)
      rw [h2.2 hg.2]
      refine tstep ?_
      simp only [spec_CommonPitches.j0]
      exact tneg (by simp) (specCommon_tot a b y ha hb)
    · unfold impl_CommonPitches.f
      refine tbind (isInstrument_tot a x ha) (fun r1 h1 => tpos (h1.2 hg.1) ?_)
      refine tbind (isInstrument_tot b y hb) (fun r2 h2 => ?_)
      rw [h2.2 hg.2]
      refine tstep ?_
      simp only [impl_CommonPitches.j0]
      exact tneg (by simp) (implCommon_tot a b y ha hb)
  · right
    refine ⟨?_, ?_⟩
    · unfold spec_CommonPitches.f
      refine tbind (inGood_tot a x ha) (fun r1 h1 => tite (fun c => ?_) (fun c => sF))
      refine tbind (inGood_tot b y hb) (fun r2 h2 => ?_)
      rw [show r2 = false by
        cases r2 with
        | false => rfl
        | true => exact absurd ⟨h1.1 c, h2.1 rfl⟩ hg]
      exact sF
    · unfold impl_CommonPitches.f
      refine tbind (isInstrument_tot a x ha) (fun r1 h1 => tite (fun c => ?_) (fun c => iF))
      refine tbind (isInstrument_tot b y hb) (fun r2 h2 => ?_)
      rw [show r2 = false by
        cases r2 with
        | false => rfl
        | true => exact absurd ⟨h1.1 c, h2.1 rfl⟩ hg]
      exact iF
theorem add_post (p : List Int) (a x : Int) (hp : p.length ≤ 1048576) : (InGood p a ∧ (24 ≤ x ∧ x ≤ 96) ∧ ¬ x ∈ p ∧ (p.length : Int) ≠ 20 ∧ Tot (fun k => spec_AddPitch.f k p a x) (fun y => y = (putL x p, a, true)) ∧ Tot (fun k => impl_AddPitch.f k p a x) (fun y => y = (putL x p, a, true))) ∨ (Tot (fun k => spec_AddPitch.f k p a x) (fun y => y = ([], 0, false)) ∧ Tot (fun k => impl_AddPitch.f k p a x) (fun y => y = ([], 0, false))) := by
  have sF : Tot (fun k => spec_AddPitch.j0 k x true p a) (fun y => y = ([], 0, false)) := by
    refine tstep ?_
    simp only [spec_AddPitch.j0, if_true]
    exact tsome rfl
  have iF : Tot (fun k => impl_AddPitch.j0 k x true p a) (fun y => y = ([], 0, false)) := by
    refine tstep ?_
    simp only [impl_AddPitch.j0, if_true]
    exact tsome rfl
  by_cases hg : InGood p a ∧ (24 ≤ x ∧ x ≤ 96) ∧ ¬ x ∈ p ∧ (p.length : Int) ≠ 20
  · obtain ⟨hg, hx, hn, hl⟩ := hg
    have e20 : ((p.length : Int) == 20) = false := by rw [beq_eq_false_iff_ne]; exact hl
    have hlen : p.length ≤ 20 := by have := hg.2; omega
    left
    refine ⟨hg, hx, hn, hl, ?_, ?_⟩
    · unfold spec_AddPitch.f
      refine tbind (inGood_tot p a hp) (fun b hb => tpos (hb.2 hg) ?_)
      rw [ntPitch_eq, decide_eq_true hx]
      refine tlet (tpos rfl ?_)
      refine tbind (inTrack_tot p a x hp) (fun r hr => tneg (by have := hr.neg.2 hn; omega) ?_)
      rw [e20]
      refine tstep ?_
      simp only [spec_AddPitch.j0]
      refine tneg (by simp) ?_
      rw [l1Own_eq p hp]
      refine tlet ?_
      exact tbind (l1Put_tot p x hp) (fun _ e => by subst e; exact tsome rfl)
    · unfold impl_AddPitch.f
      refine tbind (isInstrument_tot p a hp) (fun b hb => tpos (hb.2 hg) ?_)
      rw [isPitchA_eq, decide_eq_true hx]
      refine tlet (tpos rfl ?_)
      refine tbind (contains_tot p x hp) (fun b hb => tneg (fun h => hn (hb.1 h)) ?_)
      rw [e20]
      refine tstep ?_
      simp only [impl_AddPitch.j0]
      refine tneg (by simp) ?_
      rw [clone_int_eq p hp]
      refine tlet (tlet ?_)
      refine tpos (by rw [List.length_singleton]; omega) ?_
      rw [sortedSet_eq _ (by rw [List.length_append, List.length_singleton]; omega), putAll_append, putAll_strict p (inGood_strict p a hg)]
      exact tlet (tsome rfl)
  · right
    refine ⟨?_, ?_⟩
    · unfold spec_AddPitch.f
      refine tbind (inGood_tot p a hp) (fun b hb => tite (fun c => ?_) (fun c => sF))
      rw [ntPitch_eq]
      refine tlet (tite (fun c2 => ?_) (fun c2 => sF))
      refine tbind (inTrack_tot p a x hp) (fun r hr => tite (fun c3 => sF) (fun c3 => ?_))
      have e20 : ((p.length : Int) == 20) = true := by
        rw [beq_iff_eq]
        exact Classical.byContradiction fun h => hg ⟨hb.1 c, of_decide_eq_true c2, hr.neg.1 (by omega), h⟩
      rw [e20]
      exact sF
    · unfold impl_AddPitch.f
      refine tbind (isInstrument_tot p a hp) (fun b hb => tite (fun c => ?_) (fun c => iF))
      rw [isPitchA_eq]
      refine tlet (tite (fun c2 => ?_) (fun c2 => iF))
      refine tbind (contains_tot p x hp) (fun b' hb' => tite (fun c3 => iF) (fun c3 => ?_))
      have e20 : ((p.length : Int) == 20) = true := by
        rw [beq_iff_eq]
        exact Classical.byContradiction fun h => hg ⟨hb.1 c, of_decide_eq_true c2, fun hm => c3 (hb'.2 hm), h⟩
      rw [e20]
      exact iF
theorem track_post (l : List Int) (a x : Int) (hl : l.length ≤ 1048576) : (InGood l a ∧ (24 ≤ x ∧ x ≤ 96) ∧ x ∈ l ∧ ∃ i : Int, 0 ≤ i ∧ i < (l.length : Int) ∧ rd l i = x ∧ Idx l x 0 i ∧ Tot (fun k => spec_TrackOf.f k l a x) (fun y => y = (i, true)) ∧ Tot (fun k => impl_TrackOf.f k l a x) (fun y => y = (i, true))) ∨
    (¬ (InGood l a ∧ (24 ≤ x ∧ x ≤ 96) ∧ x ∈ l) ∧ Tot (fun k => spec_TrackOf.f k l a x) (fun y => y = (0, false)) ∧ Tot (fun k => impl_TrackOf.f k l a x) (fun y => y = (0, false))) := by
  obtain ⟨r0, hi, h1, h2⟩ := trackOf_r l a x hl
  by_cases h : InGood l a ∧ (24 ≤ x ∧ x ≤ 96) ∧ 0 ≤ r0
  · left
    rw [if_pos h] at h1 h2
    rcases hi with ⟨e, _⟩ | ⟨i0, i1, i2, i3⟩
    · exact absurd h.2.2 (by omega)
    · obtain ⟨n, rfl⟩ := Int.eq_ofNat_of_zero_le i0
      refine ⟨h.1, h.2.1, ?_, (n : Int), i0, i1, i2, .inr ⟨i0, i1, i2, i3⟩, h1, h2⟩
      rw [← i2, rd_in l n (by omega)]
      exact List.getElem_mem _
  · right
    rw [if_neg h] at h1 h2
    refine ⟨fun g => h ⟨g.1, g.2.1, ?_⟩, h1, h2⟩
    have := hi.neg
    exact Classical.byContradiction fun c => this.1 (by omega) g.2.2
def Rng (x : List Int) : Prop := ∀ y ∈ x, 24 ≤ y ∧ y ≤ 96
theorem rng_snoc {x : List Int} {y : Int} (h : Rng x) (hy : 24 ≤ y ∧ y ≤ 96) : Rng (x ++ [y]) := fun z hz => by
  rcases List.mem_append.1 hz with hz | hz
  · exact h z hz
  · rw [List.mem_singleton] at hz; rw [hz]; exact hy
theorem rng_nil : Rng [] := fun y hy => by cases hy
theorem rng_put {x : List Int} {y : Int} (h : Rng x) (hy : 24 ≤ y ∧ y ≤ 96) : Rng (putL y x) := fun z hz => by
  rcases (putLm y z x).1 hz with rfl | hz
  · exact hy
  · exact h z hz
def InsR (q : Int) (r : List Int × Int × Int × Int) : Prop := (1 ≤ r.1.length ∧ r.1.length ≤ 100) ∧ Rng r.1 ∧ r.2.1 = q
theorem drawR_l1 (l : List Int) (a s q : Int) : ∀ (d : Nat) (x : List Int), x.length + d = 20 → Rng x → Tot (fun k => spec_l1Cur_instrument.l1 k l a s x q) (fun r => InsR q r ∧ r.2.2.1 = a)
  | 0, x, h, hx => by
    refine tstep ?_
    simp only [spec_l1Cur_instrument.l1]
    exact tneg (by omega) (tsome ⟨⟨⟨by (try dsimp only); omega, by (try dsimp only); omega⟩, hx, rfl⟩, rfl⟩)
  | d + 1, x, h, hx => by
    refine tstep ?_
    simp only [spec_l1Cur_instrument.l1]
    have hw : wrap64 (48 + (x.length : Int)) = 48 + (x.length : Int) := wrap64_id (by omega) (by omega)
    exact tpos (by omega) (tpos (small8 (by omega)) (drawR_l1 l a s q d _ (by simp; omega) (rng_snoc hx (by rw [hw]; omega))))
theorem drawR_j3 (l : List Int) (hl : Bytes l) (b : Nat) (hb : b + 2 ≤ 1000000) (x : List Int) (hx : (1 ≤ x.length ∧ x.length ≤ 40) ∧ Rng x) (a s q : Int) (h : StA b a) : Tot (fun k => spec_l1Cur_instrument.j3 k l a s x q) (fun r => InsR q r ∧ StA (b + 2) r.2.2.1) := by
  refine tstep ?_
  simp only [spec_l1Cur_instrument.j3]
  obtain ⟨v1, a1, s1, e1, h1⟩ := draw_one l hl b a s 20 h (by omega)
  rw [e1]
  refine tlet ?_
  try dsimp only
  exact tite (fun _ => tmono (drawR_l1 l a1 s1 q 20 [] (by simp) rng_nil) (fun r hr => ⟨hr.1, by rw [hr.2]; exact h1⟩)) (fun _ => tsome ⟨⟨⟨hx.1.1, by have := hx.1.2; (try dsimp only); omega⟩, hx.2, rfl⟩, h1⟩)
theorem drawR_j2 (l : List Int) (hl : Bytes l) (b : Nat) (hb : b + 4 ≤ 1000000) (x : List Int) (hx : (1 ≤ x.length ∧ x.length ≤ 40) ∧ Rng x) (a s q : Int) (h : StA b a) : Tot (fun k => spec_l1Cur_instrument.j2 k l a s x q) (fun r => InsR q r ∧ StA (b + 4) r.2.2.1) := by
  refine tstep ?_
  simp only [spec_l1Cur_instrument.j2]
  obtain ⟨v1, a1, s1, e1, h1⟩ := draw_one l hl b a s 12 h (by omega)
  rw [e1]
  refine tlet ?_
  try dsimp only
  exact tite (fun _ => drawR_j3 l hl (b + 2) (by omega) [60] ⟨by simp, rng_snoc rng_nil (by omega)⟩ a1 s1 q h1) (fun _ => drawR_j3 l hl (b + 2) (by omega) x hx a1 s1 q h1)
theorem drawR_j1 (l : List Int) (hl : Bytes l) (b : Nat) (hb : b + 8 ≤ 1000000) (t : Bool) (x : List Int) (hx : x.length ≤ 30) (hr : Rng x) (ht : t = false → 1 ≤ x.length) (a s q : Int) (h : StA b a) : Tot (fun k => spec_l1Cur_instrument.j1 k t l a s x q) (fun r => InsR q r ∧ StA (b + 8) r.2.2.1) := by
  refine tstep ?_
  simp only [spec_l1Cur_instrument.j1]
  refine tite (fun _ => ?_) (fun c => tmono (drawR_j2 l hl b (by omega) x ⟨⟨ht (by simpa using c), by omega⟩, hr⟩ a s q h) (fun r hr => ⟨hr.1, hr.2.up (by omega) (by omega)⟩))
  obtain ⟨v1, a1, s1, e1, hv1, h1⟩ := draw_pick l hl b a s 73 h (by omega)
  rw [e1]
  refine tlet ?_
  try dsimp only
  obtain ⟨v2, a2, s2, e2, hv2, h2⟩ := draw_among l hl (b + 2) a1 s1 [24, 96, wrap64 (24 + v1)] (by simp) h1 (by omega)
  rw [e2]
  refine tlet ?_
  try dsimp only
  have hw : wrap64 (24 + v1) = 24 + v1 := wrap64_id (by omega) (by omega)
  have hv : 24 ≤ v2 ∧ v2 ≤ 96 := by
    rw [hw] at hv2
    simp only [List.mem_cons, List.not_mem_nil, or_false] at hv2
    omega
  refine tbind (l1Put_tot x v2 (by omega)) (fun y hy => ?_)
  subst hy
  have := putL_len v2 x
  exact drawR_j2 l hl (b + 2 + 2) (by omega) (putL v2 x) ⟨⟨this.1, by omega⟩, rng_put hr hv⟩ a2 s2 q h2
theorem drawR_l0 (l : List Int) (hl : Bytes l) (X : List Int) (hX : X.length ≤ 20) (hR : Rng X) (q : Int) (b : Nat) (hb : b + 50 ≤ 1000000) : ∀ (d i : Nat) (x : List Int) (a s : Int), i + d = X.length → x.length ≤ i → Rng x → StA (b + 2 * i) a →
    Tot (fun k => spec_l1Cur_instrument.l0 k X (X.length : Int) (i : Int) l a s x q) (fun r => InsR q r ∧ StA (b + 50) r.2.2.1)
  | 0, i, x, a, s, hi, hx, hr, h => by
    refine tstep ?_
    simp only [spec_l1Cur_instrument.l0]
    refine tneg (by omega) ?_
    obtain ⟨v1, a1, s1, e1, h1⟩ := draw_one l hl (b + 2 * i) a s 4 h (by omega)
    rw [e1]
    refine tlet ?_
    try dsimp only
    have go : ∀ t : Bool, (t = false → 1 ≤ x.length) → Tot (fun k => spec_l1Cur_instrument.j1 k t l a1 s1 x q) (fun r => InsR q r ∧ StA (b + 50) r.2.2.1) := fun t ht => tmono (drawR_j1 l hl (b + 2 * i + 2) (by omega) t x (by omega) hr ht a1 s1 q h1) (fun r hr => ⟨hr.1, hr.2.up (by omega) (by omega)⟩)
    exact tite (fun _ => go _ (fun e => by cases e)) (fun _ => go _ (fun e => by simp at e; cases x with
      | nil => simp at e
      | cons y ys => simp))
  | d + 1, i, x, a, s, hi, hx, hr, h => by
    have hw : wrap64 ((i : Int) + 1) = ((i + 1 : Nat) : Int) := by rw [wrap64_id (by omega) (by omega)]; omega
    have hm : 24 ≤ rd X (i : Int) ∧ rd X (i : Int) ≤ 96 := hR _ (by rw [rd_in X i (by omega)]; exact List.getElem_mem _)
    refine tstep ?_
    simp only [spec_l1Cur_instrument.l0, hw]
    refine tpos (by omega) (tpos (Int.natCast_nonneg i) (tpos (by omega) ?_))
    obtain ⟨v1, a1, s1, e1, h1⟩ := draw_one l hl (b + 2 * i) a s 4 h (by omega)
    rw [e1]
    refine tlet ?_
    try dsimp only
    exact tite (fun _ => drawR_l0 l hl X hX hR q b hb d (i + 1) x a1 s1 (by omega) (by omega) hr h1) (fun _ => tpos (small8 (by omega)) (drawR_l0 l hl X hX hR q b hb d (i + 1) _ a1 s1 (by omega) (by simp; omega) (rng_snoc hr hm) h1))
theorem drawR_instrument (l : List Int) (hl : Bytes l) (b : Nat) (a s : Int) (h : StA b a) (hb : b + 60 ≤ 1000000) : Tot (fun k => spec_l1Cur_instrument.f k l a s) (fun r => ((1 ≤ r.1.length ∧ r.1.length ≤ 100) ∧ Rng r.1 ∧ 1 ≤ r.2.1 ∧ r.2.1 ≤ 20) ∧ StA (b + 60) r.2.2.1) := by
  unfold spec_l1Cur_instrument.f
  obtain ⟨v1, a1, s1, e1, hv, h1⟩ := draw_among l hl b a s [1, 1, 2, 3, 4, 8, 20] (by simp) h (by omega)
  rw [e1]
  refine tlet ?_
  try dsimp only
  refine tlet ?_
  have hq : 1 ≤ v1 ∧ v1 ≤ 20 := by
    simp only [List.mem_cons, List.not_mem_nil, or_false] at hv
    omega
  have hX : Rng [48, 50, 52, 53, 55, 57, 59, 60, 62, 64, 65, 67, 69, 71, 72] := fun y hy => by
    simp only [List.mem_cons, List.not_mem_nil, or_false] at hy
    omega
  exact tmono (drawR_l0 l hl _ (by simp) hX v1 (b + 2) (by omega) 15 0 [] a1 s1 (by simp) (by simp) rng_nil h1) (fun r hr => ⟨⟨hr.1.1, hr.1.2.1, by rw [hr.1.2.2]; exact hq.1, by rw [hr.1.2.2]; exact hq.2⟩, hr.2.up (by omega) (by omega)⟩)
theorem insUpto_sizeR (l : List Int) (hr : Rng l) (i : Nat) (hi : i ≤ l.length) : (insUpto l i).size ≤ 12 * i := by
  induction i with
  | zero => exact Nat.le_refl _
  | succ i ih =>
    have := ih (by omega)
    have hc := hr (rd l (i : Int)) (by rw [rd_in l i (by omega)]; exact List.getElem_mem _)
    have hp := (pitchText_size (rd l i) hc.1 hc.2).1
    unfold insUpto
    rw [ByteArray.size_append, space_size]
    omega
theorem inText_totR (l : List Int) (a : Int) (hr : Rng l) (hn : l.length ≤ 100) (ha : 1 ≤ a ∧ a ≤ 20) : Tot (fun k => spec_inText.f k l a) (fun r => r.size ≤ 2000) := by
  unfold spec_inText.f
  refine trec (σ := Nat) (fun i k => spec_inText.l0 k (insUpto l i) l (l.length : Int) (i : Int) l a) (fun i => l.length - i) (fun i => i ≤ l.length) (fun _ r => r.size ≤ 2000) ?_ 0 (Nat.zero_le _)
  intro i hi ih
  have hsz := insUpto_sizeR l hr i hi
  simp only [spec_inText.l0, wrap64_id (x := (i : Int) + 1) (by omega) (by omega)]
  refine tite (fun c => ?_) (fun c => ?_)
  · have hc := hr (rd l (i : Int)) (by rw [rd_in l i (by omega)]; exact List.getElem_mem _)
    have hp := (pitchText_size (rd l i) hc.1 hc.2).1
    refine tpos (by omega) (tpos c ?_)
    refine tbind (ntName_tot (rd l i) hc.1 hc.2) (fun _ e => ?_); subst e
    refine tpos (by omega) (tpos (by rw [space_size]; omega) ?_)
    have h := ih (i + 1) (by omega) (by omega)
    simpa [insUpto] using h
  · obtain rfl : i = l.length := by omega
    obtain ⟨m, rfl⟩ := Int.eq_ofNat_of_zero_le (show 0 ≤ a by omega)
    have hd := (decText_size m (by omega)).1
    refine tbind (l1Num_tot m (by omega)) (fun _ e => ?_); subst e
    have e10 : (⟨#[10]⟩ : ByteArray).size = 1 := rfl
    exact tpos (by omega) (tpos (by rw [ByteArray.size_append]; omega) (tsome (by rw [ByteArray.size_append, ByteArray.size_append]; omega)))
theorem ex_sz (t : ByteArray) (i j : Nat) (hj : j ≤ t.size) : (t.extract i j).size = j - i := by
  rw [ByteArray.size_extract]; omega
theorem draw_spoilt_l0 (l : List Int) (hl : Bytes l) (w : ByteArray) (hw : 0 < w.size ∧ w.size ≤ 100) (M : Nat) (hM : M ≤ 1048000) : ∀ (d b : Nat) (t : ByteArray) (a s : Int), d ≤ 2 → t.size + d ≤ M → StA b a → b + 6 * d ≤ 999000 →
    Tot (fun k => spec_l1Cur_spoilt.l0 k t w (d : Int) l a s) (fun r => r.1.size ≤ M)
  | 0, b, t, a, s, _, ht, h, hb => by
    refine tstep ?_
    simp only [spec_l1Cur_spoilt.l0]
    refine tneg (by omega) (tstep ?_)
    simp only [spec_l1Cur_spoilt.j1]
    exact tneg (by simp) (tsome (by (try dsimp only); omega))
  | d + 1, b, t, a, s, hd, ht, h, hb => by
    have hwd : wrap64 (((d + 1 : Nat) : Int) - 1) = (d : Int) := by rw [wrap64_id (by omega) (by omega)]; omega
    refine tstep ?_
    simp only [spec_l1Cur_spoilt.l0]
    refine tpos (by omega) ?_
    by_cases hz : (t.size : Int) > 0
    · rw [decide_eq_true hz]
      refine tstep ?_
      simp only [spec_l1Cur_spoilt.j1, hwd]
      refine tpos (by trivial) ?_
      obtain ⟨v1, a1, s1, e1, hv1, h1⟩ := draw_pick l hl b a s (t.size : Int) h (by omega)
      rw [e1]
      refine tlet ?_
      try dsimp only
      obtain ⟨v2, a2, s2, e2, hv2, h2⟩ := draw_pick l hl (b + 2) a1 s1 (w.size : Int) h1 (by omega)
      rw [e2]
      refine tlet ?_
      try dsimp only
      refine tpos hv2.1 (tpos (by omega) (tlet ?_))
      obtain ⟨v3, a3, s3, e3, _, h3⟩ := draw_pick l hl (b + 2 + 2) a2 s2 3 h2 (by omega)
      rw [e3]
      refine tlet ?_
      try dsimp only
      have hwv : wrap64 (v1 + 1) = v1 + 1 := wrap64_id (by omega) (by omega)
      have e5 := ex_sz t 0 v1.toNat (by omega)
      have e6 := ex_sz t v1.toNat t.size (Nat.le_refl _)
      have e7 := ex_sz t (v1 + 1).toNat t.size (Nat.le_refl _)
      have e8 : ∀ x : Int, (strOfNums ([x] : List Int)).size = 1 := fun x => rfl
      rw [hwv]
      have h3' : StA (b + 6) a3 := h3.up (by omega) (by omega)
      refine tite (fun _ => ?_) (fun _ => tite (fun _ => ?_) (fun _ => ?_))
      · refine tpos hv1.1 (tpos (by omega) (tpos (by rw [e5, e8]; omega) (tpos (by rw [ByteArray.size_append, e5, e8, e6]; omega) ?_)))
        exact draw_spoilt_l0 l hl w hw M hM d (b + 6) _ a3 s3 (by omega) (by rw [ByteArray.size_append, ByteArray.size_append, e5, e8, e6]; omega) h3' (by omega)
      · refine tpos hv1.1 (tpos (by omega) (tpos (by rw [e5, e8]; omega) (tpos (by omega) (tpos (by omega) (tpos (by rw [ByteArray.size_append, e5, e8, e7]; omega) ?_)))))
        exact draw_spoilt_l0 l hl w hw M hM d (b + 6) _ a3 s3 (by omega) (by rw [ByteArray.size_append, ByteArray.size_append, e5, e8, e7]; omega) h3' (by omega)
      · refine tpos hv1.1 (tpos (by omega) (tpos (by omega) (tpos (by omega) (tpos (by rw [e5, e7]; omega) ?_))))
        exact draw_spoilt_l0 l hl w hw M hM d (b + 6) _ a3 s3 (by omega) (by rw [ByteArray.size_append, e5, e7]; omega) h3' (by omega)
    · rw [decide_eq_false hz]
      refine tstep ?_
      simp only [spec_l1Cur_spoilt.j1]
      exact tneg (by simp) (tsome (by (try dsimp only); omega))
theorem draw_spoilt (l : List Int) (hl : Bytes l) (w : ByteArray) (hw : 0 < w.size ∧ w.size ≤ 100) (b : Nat) (t : ByteArray) (a s : Int) (ht : t.size ≤ 1000000) (h : StA b a) (hb : b + 20 ≤ 999000) : Tot (fun k => spec_l1Cur_spoilt.f k l a s t w) (fun r => r.1.size ≤ t.size + 2) := by
  unfold spec_l1Cur_spoilt.f
  obtain ⟨v1, a1, s1, e1, hv1, h1⟩ := draw_pick l hl b a s 2 h (by omega)
  rw [e1]
  refine tlet ?_
  try dsimp only
  obtain ⟨n, hn, e⟩ : ∃ n : Nat, n ≤ 2 ∧ wrap64 (1 + v1) = (n : Int) := ⟨(1 + v1).toNat, by omega, by rw [wrap64_id (by omega) (by omega)]; omega⟩
  rw [e]
  exact draw_spoilt_l0 l hl w hw (t.size + 2) (by omega) n (b + 2) t a1 s1 hn (by omega) h1 (by omega)
theorem draw_of (l : List Int) (hl : Bytes l) (b : Nat) (a s : Int) (xs : List ByteArray) (hx : 0 < xs.length) (h : StA b a) (hb : b + 2 ≤ 1000000) : ∃ v a' s', spec_l1Cur_of.f l a s xs = some (v, a', s') ∧ v ∈ xs ∧ StA (b + 2) a' := by
  unfold spec_l1Cur_of.f
  obtain ⟨v, a', s', e, hv, h'⟩ := draw_pick l hl b a s (xs.length : Int) h hb
  rw [e, Option.bind_some, if_pos hv.1, if_pos (by omega)]
  refine ⟨_, _, _, rfl, ?_, h'⟩
  unfold rdOf
  have hi : v.toNat < xs.length := by omega
  simp only [List.getD_eq_getElem?_getD, List.getElem?_eq_getElem hi, Option.getD_some]
  exact List.getElem_mem hi
theorem draw_InstrumentText (l : List Int) (hl : Bytes l) : Tot (fun k => spec_DrawInstrumentText.f k l) (fun r => r.1.length ≤ 100) := by
  unfold spec_DrawInstrumentText.f spec_DrawIsInstrument.f
  rw [newCur_eq]
  refine tbind (Q := fun r => r.1.length ≤ 100) ?_ (fun r hr => tsome hr)
  exact tlet (tbind (draw_anyInstrument l hl 0 0 0 st0 (by omega)) (fun r hr => tsome hr.1))
theorem draw_TrackOf (l : List Int) (hl : Bytes l) : Tot (fun k => spec_DrawTrackOf.f k l) (fun r => r.1.length ≤ 100) := by
  unfold spec_DrawTrackOf.f
  rw [newCur_eq]
  refine tlet (tbind (draw_anyInstrument l hl 0 0 0 st0 (by omega)) (fun r hr => ?_))
  obtain ⟨p, q, a1, s1⟩ := r
  obtain ⟨hp, h1⟩ := hr
  dsimp only at hp h1
  have go : ∀ (t : Bool) (a2 s2 : Int), StA (0 + 70 + 2) a2 → (t = true → (p.length : Int) > 0) → Tot (fun k => spec_DrawTrackOf.j0 k t l a2 s2 p q) (fun r => r.1.length ≤ 100) := by
    intro t a2 s2 h2 ht
    refine tstep ?_
    simp only [spec_DrawTrackOf.j0]
    refine tite (fun c => ?_) (fun _ => ?_)
    · obtain ⟨v3, a3, s3, e3, hv3, h3⟩ := draw_pick l hl (0 + 70 + 2) a2 s2 (p.length : Int) h2 (by omega)
      have := ht c
      rw [e3]
      refine tlet ?_
      try dsimp only
      exact tpos hv3.1 (tpos (by omega) (tsome hp))
    · obtain ⟨v3, a3, s3, e3, hv3, h3⟩ := draw_among l hl (0 + 70 + 2) a2 s2 [23, 97] (by simp) h2 (by omega)
      rw [e3]
      refine tlet ?_
      try dsimp only
      obtain ⟨v4, a4, s4, e4, hv4, h4⟩ := draw_among l hl (0 + 70 + 2 + 2) a3 s3 [48, 60, 61, 24, 96, v3] (by simp) h3 (by omega)
      rw [e4]
      exact tlet (tsome hp)
  refine tite (fun c => ?_) (fun _ => go false a1 s1 (h1.up (by omega) (by omega)) (fun e => by cases e))
  obtain ⟨v2, a2, s2, e2, h2⟩ := draw_one l hl (0 + 70) a1 s1 2 h1 (by omega)
  rw [e2]
  refine tlet ?_
  try dsimp only
  exact go v2 a2 s2 h2 (fun _ => c)
theorem draw_AddPitch (l : List Int) (hl : Bytes l) : Tot (fun k => spec_DrawAddPitch.f k l) (fun r => r.1.length ≤ 100) := by
  unfold spec_DrawAddPitch.f
  exact tbind (draw_TrackOf l hl) (fun r hr => tsome hr)
theorem draw_PitchOf (l : List Int) (hl : Bytes l) : Tot (fun k => spec_DrawPitchOf.f k l) (fun r => r.1.length ≤ 100) := by
  unfold spec_DrawPitchOf.f
  rw [newCur_eq]
  refine tlet (tbind (draw_anyInstrument l hl 0 0 0 st0 (by omega)) (fun r hr => ?_))
  obtain ⟨p, q, a1, s1⟩ := r
  obtain ⟨hp, h1⟩ := hr
  dsimp only at hp h1
  rw [l1Most_eq]
  refine tlet ?_
  try dsimp only
  obtain ⟨v2, a2, s2, e2, hv2, h2⟩ := draw_pick l hl (0 + 70) a1 s1 16 h1 (by omega)
  rw [e2]
  refine tlet ?_
  try dsimp only
  obtain ⟨v3, a3, s3, e3, hv3, h3⟩ := draw_pick l hl (0 + 70 + 2) a2 s2 (wrap64 (mx 1 (p.length : Int) + wrap64 (Int.tdiv v2 15))) h2 (by omega)
  rw [e3]
  refine tlet ?_
  try dsimp only
  obtain ⟨v4, a4, s4, e4, hv4, h4⟩ := draw_pick l hl (0 + 70 + 2 + 2) a3 s3 24 h3 (by omega)
  rw [e4]
  exact tlet (tsome hp)
theorem draw_CommonPitches (l : List Int) (hl : Bytes l) : Tot (fun k => spec_DrawCommonPitches.f k l) (fun r => r.1.length ≤ 100 ∧ r.2.2.1.length ≤ 100) := by
  unfold spec_DrawCommonPitches.f
  rw [newCur_eq]
  refine tlet (tbind (draw_anyInstrument l hl 0 0 0 st0 (by omega)) (fun r hr => ?_))
  obtain ⟨p, q, a1, s1⟩ := r
  obtain ⟨hp, h1⟩ := hr
  dsimp only at hp h1
  exact tbind (draw_anyInstrument l hl (0 + 70) a1 s1 h1 (by omega)) (fun r hr => tsome ⟨hp, hr.1⟩)
theorem draw_ParseInstrument (l : List Int) (hl : Bytes l) : Tot (fun k => spec_DrawParseInstrument.f k l) (fun r => r.size ≤ 2002) := by
  unfold spec_DrawParseInstrument.f
  rw [newCur_eq]
  refine tlet (tbind (drawR_instrument l hl 0 0 0 st0 (by omega)) (fun r hr => ?_))
  obtain ⟨p, q, a1, s1⟩ := r
  obtain ⟨⟨⟨_, hp⟩, hR, hq⟩, h1⟩ := hr
  dsimp only at hp hR hq h1
  refine tbind (inText_totR p q hR hp hq) (fun t ht => ?_)
  obtain ⟨v2, a2, s2, e2, hv2, h2⟩ := draw_pick l hl (0 + 60) a1 s1 6 h1 (by omega)
  rw [e2]
  refine tlet ?_
  try dsimp only
  have go : ∀ b : Bool, Tot (fun k => spec_DrawParseInstrument.j0 k t v2 b l a2 s2) (fun r => r.size ≤ 2002) := by
    intro b
    refine tstep ?_
    simp only [spec_DrawParseInstrument.j0]
    refine tite (fun _ => ?_) (fun _ => tite (fun _ => ?_) (fun _ => tsome (by omega)))
    · exact tbind (draw_spoilt l hl _ ⟨by decide, by decide⟩ (0 + 60 + 2) t a2 s2 (by omega) h2 (by omega)) (fun r hr => tsome (by omega))
    · obtain ⟨v3, a3, s3, e3, hv3, h3⟩ := draw_of l hl (0 + 60 + 2) a2 s2 [(⟨#[]⟩ : ByteArray), (⟨#[10]⟩ : ByteArray), (⟨#[49, 10]⟩ : ByteArray), (⟨#[99, 53, 10]⟩ : ByteArray), (⟨#[99, 53, 32, 48, 10]⟩ : ByteArray), (⟨#[99, 53, 32, 50, 49, 10]⟩ : ByteArray), (⟨#[99, 53, 32, 99, 53, 32, 49, 10]⟩ : ByteArray), (⟨#[100, 53, 32, 99, 53, 32, 49, 10]⟩ : ByteArray), (⟨#[99, 53, 32, 49]⟩ : ByteArray), (⟨#[99, 53, 32, 32, 49, 10]⟩ : ByteArray), (⟨#[99, 53, 32, 49, 10, 10]⟩ : ByteArray)] (by simp) h2 (by omega)
      rw [e3]
      refine tlet (tsome ?_)
      have small : ∀ x ∈ [(⟨#[]⟩ : ByteArray), (⟨#[10]⟩ : ByteArray), (⟨#[49, 10]⟩ : ByteArray), (⟨#[99, 53, 10]⟩ : ByteArray), (⟨#[99, 53, 32, 48, 10]⟩ : ByteArray), (⟨#[99, 53, 32, 50, 49, 10]⟩ : ByteArray), (⟨#[99, 53, 32, 99, 53, 32, 49, 10]⟩ : ByteArray), (⟨#[100, 53, 32, 99, 53, 32, 49, 10]⟩ : ByteArray), (⟨#[99, 53, 32, 49]⟩ : ByteArray), (⟨#[99, 53, 32, 32, 49, 10]⟩ : ByteArray), (⟨#[99, 53, 32, 49, 10, 10]⟩ : ByteArray)], x.size ≤ 20 := by decide
      have := small v3 hv3
      try dsimp only
      omega
  exact tite (fun _ => go _) (fun _ => go _)
theorem qInstrument_refl (l : List Int) (a : Int) (hl : l.length ≤ 1048576) : Tot (fun k => laws_qInstrument.f k l a l a) (fun r => r = true) := by
  unfold laws_qInstrument.f
  exact tpos rfl (tbind (qInts_refl l hl) (fun r hr => tsome hr))

theorem fi_text (p : List Int) (a : Int) (hp : p.length ≤ 1048576) : ∃ (s : ByteArray) (ok : Bool), (ok = true ↔ InGood p a) ∧ (ok = true → InGood p a ∧ inB p a = s.data.toList) ∧ Tot (fun k => spec_InstrumentText.f k p a) (fun y => y = (s, ok)) ∧ Tot (fun k => impl_InstrumentText.f k p a) (fun y => y = (s, ok)) := by
  rcases text_post p a hp with ⟨hg, s, hs, _, h1, h2⟩ | ⟨hg, h1, h2⟩
  · exact ⟨s, true, ⟨fun _ => hg, fun _ => rfl⟩, fun _ => ⟨hg, hs.symm⟩, h1, h2⟩
  · exact ⟨_, false, ⟨(fun h => by cases h), fun h => absurd h hg⟩, (fun h => by cases h), h1, h2⟩
def FiAdd (p : List Int) (a x : Int) (b : List Int) (rb : Int) : Prop := InGood p a ∧ (24 ≤ x ∧ x ≤ 96) ∧ ¬ x ∈ p ∧ (p.length : Int) ≠ 20 ∧ b = putL x p ∧ rb = a
theorem fi_add (p : List Int) (a x : Int) (hp : p.length ≤ 100) : ∃ (b : List Int) (rb : Int) (one : Bool) (t : Int) (three : Bool), b.length ≤ 1048576 ∧ (one = true → three = false) ∧ (one = true → FiAdd p a x b rb) ∧
    Tot (fun k => spec_AddPitch.f k p a x) (fun y => y = (b, rb, one)) ∧ Tot (fun k => impl_AddPitch.f k p a x) (fun y => y = (b, rb, one)) ∧ Tot (fun k => spec_TrackOf.f k p a x) (fun y => y = (t, three)) ∧ Tot (fun k => impl_TrackOf.f k p a x) (fun y => y = (t, three)) := by
  have tr : ∃ (t : Int) (three : Bool), (three = true → x ∈ p) ∧ Tot (fun k => spec_TrackOf.f k p a x) (fun y => y = (t, three)) ∧ Tot (fun k => impl_TrackOf.f k p a x) (fun y => y = (t, three)) := by
    rcases track_post p a x (by omega) with ⟨_, _, hx, i, _, _, _, _, h1, h2⟩ | ⟨_, h1, h2⟩
    · exact ⟨i, true, fun _ => hx, h1, h2⟩
    · exact ⟨0, false, (fun h => by cases h), h1, h2⟩
  obtain ⟨t, three, ht, h3, h4⟩ := tr
  rcases add_post p a x (by omega) with ⟨hg, hx, hn, hl, h1, h2⟩ | ⟨h1, h2⟩
  · exact ⟨putL x p, a, true, t, three, by rw [putL_new x p hn]; omega, fun _ => by
      cases three with
      | false => rfl
      | true => exact absurd (ht rfl) hn, fun _ => ⟨hg, hx, hn, hl, rfl, rfl⟩, h1, h2, h3, h4⟩
  · exact ⟨[], 0, false, t, three, by simp, (fun h => by cases h), (fun h => by cases h), h1, h2, h3, h4⟩
def FiPitch (c : List Int) (rc kk pp : Int) : Prop := InGood c rc ∧ 0 ≤ kk ∧ kk < (c.length : Int) ∧ pp = rd c kk
theorem fi_pitch (c : List Int) (rc kk : Int) (hc : c.length ≤ 1048576) : ∃ (pp : Int) (five : Bool), (five = true → FiPitch c rc kk pp) ∧ Tot (fun k => spec_PitchOf.f k c rc kk) (fun y => y = (pp, five)) ∧ Tot (fun k => impl_PitchOf.f k c rc kk) (fun y => y = (pp, five)) := by
  classical
  obtain ⟨h1, h2⟩ := pitchOf_r c rc kk hc
  by_cases h : InGood c rc ∧ 0 ≤ kk ∧ kk < (c.length : Int)
  · rw [if_pos h] at h1 h2
    exact ⟨_, true, fun _ => ⟨h.1, h.2.1, h.2.2, rfl⟩, h1, h2⟩
  · rw [if_neg h] at h1 h2
    exact ⟨_, false, (fun e => by cases e), h1, h2⟩
def FiCom (d : List Int) (x : Int) (e : List Int) (y : Int) (m : List Int) : Prop := InGood d x ∧ InGood e y ∧ m = comUpto d e d.length
theorem fi_com (d : List Int) (x : Int) (e : List Int) (y : Int) (hd : d.length ≤ 100) (he : e.length ≤ 100) : ∃ (m : List Int) (seven : Bool), m.length ≤ 1048576 ∧ (seven = true → FiCom d x e y m) ∧ Tot (fun k => spec_CommonPitches.f k d x e y) (fun z => z = (m, seven)) ∧ Tot (fun k => impl_CommonPitches.f k d x e y) (fun z => z = (m, seven)) := by
  rcases common_post d x e y (by omega) (by omega) with ⟨h1, h2, h3, h4⟩ | ⟨h3, h4⟩
  · exact ⟨_, true, by have := comUpto_len d e d.length; omega, fun _ => ⟨h1, h2, rfl⟩, h3, h4⟩
  · exact ⟨[], false, by simp, (fun h => by cases h), h3, h4⟩
theorem fi_j5 (s : ByteArray) (ok : Bool) (p : List Int) (a : Int) (hok : ok = true → InGood p a ∧ inB p a = s.data.toList) : Tot (fun k => laws_FnInstruments.j5 k s ok p a) (fun b => b = true) := by
  refine tstep ?_
  simp only [laws_FnInstruments.j5]
  refine tite (fun c => ?_) (fun _ => tsome rfl)
  obtain ⟨hg, he⟩ := hok c
  have := hg.2
  refine tbind (implPI_hit s p a hg he) (fun _ e => ?_); subst e
  refine tpos rfl ?_
  exact tbind (qInstrument_refl p a (by omega)) (fun t ht => tsome ht)
theorem fi_l0 (s : ByteArray) (ok : Bool) (p : List Int) (a : Int) (J : Tot (fun k => laws_FnInstruments.j5 k s ok p a) (fun b => b = true)) (d : List Int) (x : Int) (e : List Int) (y : Int) (hd : InGood d x) (he : InGood e y) : ∀ (n i : Nat), i + n = d.length →
    Tot (fun k => laws_FnInstruments.l0 k s ok (comUpto d e d.length) d (d.length : Int) (i : Int) p a e y) (fun b => b = true)
  | 0, i, hi => by
    refine tstep ?_
    simp only [laws_FnInstruments.l0]
    exact tneg (by omega) J
  | n + 1, i, hi => by
    have hdl := hd.2
    have hel := he.2
    have hw : wrap64 ((i : Int) + 1) = ((i + 1 : Nat) : Int) := by rw [wrap64_id (by omega) (by omega)]; omega
    have hin : rd d (i : Int) ∈ d := by rw [rd_in d i (by omega)]; exact List.getElem_mem _
    have hr := in_mem d x hd _ hin
    have hcl := comUpto_len d e d.length
    refine tstep ?_
    simp only [laws_FnInstruments.l0, hw]
    refine tpos (by omega) (tpos (Int.natCast_nonneg i) (tpos (by omega) ?_))
    refine tbind (trackOf_has e y (rd d (i : Int)) (by omega) he hr) (fun z hz => ?_)
    refine tbind (qHas_tot (comUpto d e d.length) (rd d (i : Int)) (by omega)) (fun t ht => ?_)
    have key : t = z.2 := by
      rw [Bool.eq_iff_iff, ht, hz, com_all]
      exact ⟨fun h => h.2, fun h => ⟨hin, h⟩⟩
    rw [key]
    exact tneg (by simp) (fi_l0 s ok p a J d x e y hd he n (i + 1) (by omega))
theorem fi_j2 (s : ByteArray) (ok : Bool) (p : List Int) (a : Int) (J : Tot (fun k => laws_FnInstruments.j5 k s ok p a) (fun b => b = true)) (d : List Int) (x : Int) (e : List Int) (y : Int) (seven : Bool) (m : List Int) (h7 : seven = true → FiCom d x e y m) :
    Tot (fun k => laws_FnInstruments.j2 k s ok seven m p a d x e y) (fun b => b = true) := by
  refine tstep ?_
  simp only [laws_FnInstruments.j2]
  refine tite (fun c => ?_) (fun _ => J)
  obtain ⟨hd, he, rfl⟩ := h7 c
  have hdl := hd.2
  have hel := he.2
  have hcl := comUpto_len d e d.length
  have hsym := com_sym d e (inGood_strict d x hd) (inGood_strict e y he)
  have hback : Tot (fun k => impl_CommonPitches.f k e y d x) (fun z => z = (comUpto d e d.length, true)) := by
    rcases common_post e y d x (by omega) (by omega) with ⟨_, _, _, h4⟩ | ⟨h3, _⟩
    · rw [hsym] at h4; exact h4
    · rcases common_post e y d x (by omega) (by omega) with ⟨_, _, _, h4⟩ | ⟨_, h4⟩
      · rw [hsym] at h4; exact h4
      · exfalso
        have hF : Tot (fun k => spec_CommonPitches.f k e y d x) (fun z => z = (comUpto e d e.length, true)) := by
          unfold spec_CommonPitches.f
          refine tbind (inGood_tot e y (by omega)) (fun r1 h1 => tpos (h1.2 he) ?_)
          refine tbind (inGood_tot d x (by omega)) (fun r2 h2 => ?_)
          rw [h2.2 hd]
          refine tstep ?_
          simp only [spec_CommonPitches.j0]
          exact tneg (by simp) (specCommon_tot e d x (by omega) (by omega))
        have := tconf hF h3
        simp at this
  refine tbind hback (fun _ e => ?_); subst e
  refine tpos rfl ?_
  refine tbind (qInts_refl _ (by dsimp only; omega)) (fun t ht => ?_)
  subst ht
  refine tstep ?_
  simp only [laws_FnInstruments.j3]
  exact tneg (by simp) (fi_l0 s ok p a J d x e y hd he d.length 0 (by omega))
theorem fi_j1 (s : ByteArray) (ok : Bool) (p : List Int) (a : Int) (seven : Bool) (m d : List Int) (x : Int) (e : List Int) (y : Int) (J : Tot (fun k => laws_FnInstruments.j2 k s ok seven m p a d x e y) (fun b => b = true)) (pit : Int) (one : Bool) (q : List Int) (r : Int) (b : List Int) (rb : Int)
    (h1 : one = true → FiAdd q r pit b rb) : Tot (fun k => laws_FnInstruments.j1 k s ok pit one seven m p a q r b rb b rb d x e y) (fun b => b = true) := by
  refine tstep ?_
  simp only [laws_FnInstruments.j1]
  refine tite (fun c => ?_) (fun _ => J)
  obtain ⟨hg, hx, hn, hl, rfl, rfl⟩ := h1 c
  have hql := hg.2
  have hgp := inGood_put q rb pit hg hx hn hl
  have hpl := putL_new pit q hn
  have hmem : pit ∈ putL pit q := (putLm pit pit q).2 (.inl rfl)
  rcases track_post (putL pit q) rb pit (by omega) with ⟨_, _, _, i, i0, i1, i2, _, t1, t2⟩ | ⟨hno, _, _⟩
  · refine tbind t2 (fun _ e => ?_); subst e
    refine tbind t1 (fun _ e => ?_); subst e
    refine tpos rfl (tpos rfl (tpos rfl (tpos i0 (tpos i1 (tpos i2 (tpos ?_ ?_))))))
    · rw [wrap64_id (by omega) (by omega)]; omega
    · exact tbind (isInstrument_tot (putL pit q) rb (by omega)) (fun t ht => tpos (ht.2 hgp) J)
  · exact absurd ⟨hgp, hx, hmem⟩ hno
theorem fi_j0 (s : ByteArray) (ok : Bool) (p : List Int) (a : Int) (seven : Bool) (m d : List Int) (x : Int) (e : List Int) (y : Int) (pit : Int) (one : Bool) (q : List Int) (r : Int) (b : List Int) (rb : Int) (J : Tot (fun k => laws_FnInstruments.j1 k s ok pit one seven m p a q r b rb b rb d x e y) (fun b => b = true))
    (c : List Int) (rc kk pp : Int) (five : Bool) (hc : c.length ≤ 1048576) (h5 : five = true → FiPitch c rc kk pp) : Tot (fun k => laws_FnInstruments.j0 k s ok pit one kk pp five seven m false p a q r b rb b rb c rc d x e y) (fun b => b = true) := by
  refine tstep ?_
  simp only [laws_FnInstruments.j0]
  refine tneg (by simp) (tite (fun c5 => ?_) (fun _ => J))
  obtain ⟨hg, k0, k1, rfl⟩ := h5 c5
  have hin : rd c kk ∈ c := by
    obtain ⟨n, rfl⟩ := Int.eq_ofNat_of_zero_le k0
    rw [rd_in c n (by omega)]; exact List.getElem_mem _
  have hr := in_mem c rc hg _ hin
  rcases track_post c rc (rd c kk) hc with ⟨_, _, _, i, i0, i1, i2, hi, _, t2⟩ | ⟨hno, _, _⟩
  · refine tbind t2 (fun _ e => ?_); subst e
    exact tpos rfl (tpos (idx_at c (inGood_strict c rc hg) (rd c kk) i hi kk k0 k1 rfl) J)
  · exact absurd ⟨hg, hr, hin⟩ hno

theorem FnInstruments : laws_FnInstruments.Pure := by
  intro l0 l1 hm0 hb0 hw0 hm1 hb1 hw1
  refine rounds ?_
  unfold laws_FnInstruments.f
  have wfb : ∀ x : Int, (Lit.int .u8 x).wf = true → 0 ≤ x ∧ x ≤ 255 := fun x h => by
    have h2 : (decide (IntKind.u8.min ≤ x) && decide (x ≤ IntKind.u8.max)) = true := h
    rw [Bool.and_eq_true, decide_eq_true_eq, decide_eq_true_eq] at h2
    exact h2
  refine tite (fun _ => tsome rfl) (fun hsz => ?_)
  have hsum : l0.length + l1.length ≤ 1048576 := by
    rw [wrap64_id (by omega) (by omega)] at hsz
    omega
  have B0 : Bytes l0 := ⟨fun x hx => wfb x (hw0 x hx), by omega⟩
  have B1 : Bytes l1 := ⟨fun x hx => wfb x (hw1 x hx), by omega⟩
  refine tbind (draw_InstrumentText l0 B0) (fun A hA => ?_)
  obtain ⟨p, a⟩ := A
  dsimp only at hA
  obtain ⟨s, ok, hok, hok2, s1, i1⟩ := fi_text p a (by omega)
  refine tbind i1 (fun _ e => ?_); subst e
  refine tbind s1 (fun _ e => ?_); subst e
  refine tbind (draw_AddPitch l1 B1) (fun A hA2 => ?_)
  obtain ⟨q, r, pit⟩ := A
  dsimp only at hA2
  obtain ⟨b, rb, one, t, three, hb, h13, hadd, s2, i2, s3, i3⟩ := fi_add q r pit hA2
  refine tbind i2 (fun _ e => ?_); subst e
  refine tbind s2 (fun _ e => ?_); subst e
  refine tbind i3 (fun _ e => ?_); subst e
  refine tbind s3 (fun _ e => ?_); subst e
  refine tbind (draw_PitchOf l1 B1) (fun A hA3 => ?_)
  obtain ⟨c, rc, kk⟩ := A
  dsimp only at hA3
  obtain ⟨pp, five, h5, s4, i4⟩ := fi_pitch c rc kk (by omega)
  refine tbind i4 (fun _ e => ?_); subst e
  refine tbind s4 (fun _ e => ?_); subst e
  refine tbind (draw_CommonPitches l1 B1) (fun A hA4 => ?_)
  obtain ⟨d, x, e, y⟩ := A
  obtain ⟨hd, he⟩ := hA4
  dsimp only at hd he
  obtain ⟨m, seven, hm, h7, s5, i5⟩ := fi_com d x e y hd he
  refine tbind i5 (fun _ e => ?_); subst e
  refine tbind s5 (fun _ e => ?_); subst e
  refine tbind (draw_ParseInstrument l1 B1) (fun u hu => ?_)
  obtain ⟨⟨rr, ra, nine⟩, s6, i6, hrr⟩ := parseInstrument_agree u (by omega)
  dsimp only at hrr
  refine tbind i6 (fun _ e => ?_); subst e
  refine tbind s6 (fun _ e => ?_); subst e
  dsimp only
  refine tneg (by simp) (tpos rfl (tneg (by simp) (tbind (qInstrument_refl b rb hb) (fun t1 ht1 => tpos ht1 ?_))))
  refine tneg (by simp) (tpos rfl (tneg (by simp) (tpos rfl (tneg (by simp) (tbind (qInts_refl m hm) (fun t2 ht2 => tpos ht2 ?_))))))
  refine tneg (by simp) (tbind (qInstrument_refl rr ra hrr) (fun t3 ht3 => tpos ht3 ?_))
  refine tbind (isInstrument_tot p a (by omega)) (fun t4 ht4 => ?_)
  have e4 : t4 = ok := by rw [Bool.eq_iff_iff, ht4, hok]
  subst e4
  have J := fi_j0 s t4 p a seven m d x e y pit one q r b rb (fi_j1 s t4 p a seven m d x e y (fi_j2 s t4 p a (fi_j5 s t4 p a hok2) d x e y seven m h7) pit one q r b rb hadd) c rc kk pp five (by omega) h5
  refine tneg (by simp) (tite (fun c1 => ?_) (fun _ => J))
  rw [h13 c1]
  exact J
end Go.Proofs.YtpkklbjdhmpjnaaGreatDoor.Pure
