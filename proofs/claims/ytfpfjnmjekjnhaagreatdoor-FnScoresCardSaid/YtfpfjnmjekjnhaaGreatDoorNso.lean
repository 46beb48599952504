/-
  Sorting by insertion, on lists; and that the stable order is that one.
-/
import Derived.Test.YtfpfjnmjekjnhaaGreatDoorSrt
set_option linter.unusedVariables false
set_option linter.unusedSectionVars false
namespace Go.Proofs.YtfpfjnmjekjnhaaGreatDoor.Srt
open Go.Sort

/-- Into a list that lies the other way round: behind all that are greater. -/
def insR {α : Type} (lt : α → α → Bool) (x : α) : List α → List α
  | [] => [x]
  | y :: ys => if lt x y = true then y :: insR lt x ys else x :: y :: ys
def nsortR {α : Type} (lt : α → α → Bool) (l : List α) : List α := l.foldl (fun r x => insR lt x r) []
def nsort {α : Type} (lt : α → α → Bool) (l : List α) : List α := (nsortR lt l).reverse
section
variable {α : Type} [Inhabited α] {lt : α → α → Bool} {ix : α → Nat}
theorem insR_perm (x : α) : ∀ r : List α, (insR lt x r).Perm (x :: r)
  | [] => List.Perm.refl _
  | y :: ys => by
    unfold insR
    split
    · exact ((insR_perm x ys).cons y).trans (List.Perm.swap x y ys)
    · exact List.Perm.refl _
theorem foldR_perm : ∀ (l r : List α), (l.foldl (fun r x => insR lt x r) r).Perm (l ++ r)
  | [], r => List.Perm.refl _
  | x :: l, r => by
    rw [List.foldl_cons]
    exact (foldR_perm l _).trans (((insR_perm x r).append_left l).trans List.perm_middle)
theorem nsort_perm (l : List α) : (nsort lt l).Perm l := (List.reverse_perm _).trans (by have h := foldR_perm (lt := lt) l []; rw [List.append_nil] at h; exact h)
theorem nsort_length (l : List α) : (nsort lt l).length = l.length := (nsort_perm l).length_eq
theorem insR_map {β : Type} (f : β → α) (x : β) : ∀ r : List β, (insR (fun a b => lt (f a) (f b)) x r).map f = insR lt (f x) (r.map f)
  | [] => rfl
  | y :: ys => by
    unfold insR
    rw [List.map_cons]
    simp only []
    split
    · rw [List.map_cons, insR_map f x ys]
    · rfl
theorem foldR_map {β : Type} (f : β → α) : ∀ (l r : List β), (l.foldl (fun r x => insR (fun a b => lt (f a) (f b)) x r) r).map f = (l.map f).foldl (fun r x => insR lt x r) (r.map f)
  | [], r => rfl
  | x :: l, r => by
    rw [List.foldl_cons, foldR_map f l, insR_map, List.map_cons, List.foldl_cons]
theorem nsort_map {β : Type} (f : β → α) (l : List β) : (nsort (fun a b => lt (f a) (f b)) l).map f = nsort lt (l.map f) := by
  unfold nsort nsortR
  rw [List.map_reverse, foldR_map]
  rfl
theorem insR_sorted (hO : SWO lt) (x : α) : ∀ r : List α, r.Pairwise (fun a b => Bef lt ix b a) → (∀ y ∈ r, ix y < ix x) → (insR lt x r).Pairwise (fun a b => Bef lt ix b a)
  | [], _, _ => List.pairwise_singleton _ _
  | y :: ys, h, hx => by
    rw [List.pairwise_cons] at h
    unfold insR
    split
    · rename_i c
      refine List.pairwise_cons.2 ⟨fun z hz => ?_, insR_sorted hO x ys h.2 (fun z hz => hx z (List.mem_cons_of_mem _ hz))⟩
      rcases List.mem_cons.1 ((insR_perm x ys).mem_iff.1 hz) with e | hz
      · rw [e]; exact Or.inl c
      · exact h.1 z hz
    · rename_i c
      have c' : lt x y = false := by simpa using c
      refine List.pairwise_cons.2 ⟨fun z hz => ?_, List.pairwise_cons.2 h⟩
      rcases List.mem_cons.1 hz with e | hz
      · rw [e]; exact Or.inr ⟨c', hx y List.mem_cons_self⟩
      · exact Or.inr ⟨hO.ntrans _ _ _ c' ((h.1 z hz).nlt hO), hx z (List.mem_cons_of_mem _ hz)⟩
theorem foldR_sorted (hO : SWO lt) : ∀ (l r : List α), r.Pairwise (fun a b => Bef lt ix b a) → (∀ y ∈ r, ∀ x ∈ l, ix y < ix x) → l.Pairwise (fun a b => ix a < ix b) → (l.foldl (fun r x => insR lt x r) r).Pairwise (fun a b => Bef lt ix b a)
  | [], r, h, _, _ => h
  | x :: l, r, h, hx, hl => by
    rw [List.foldl_cons]
    rw [List.pairwise_cons] at hl
    refine foldR_sorted hO l _ (insR_sorted hO x r h (fun y hy => hx y hy x List.mem_cons_self)) (fun y hy z hz => ?_) hl.2
    rcases List.mem_cons.1 ((insR_perm x r).mem_iff.1 hy) with e | hy
    · rw [e]; exact hl.1 z hz
    · exact hx y hy z (List.mem_cons_of_mem _ hz)
theorem nsort_sorted (hO : SWO lt) (l : List α) (hl : l.Pairwise (fun a b => ix a < ix b)) : (nsort lt l).Pairwise (Bef lt ix) := by
  unfold nsort
  rw [List.pairwise_reverse]
  exact foldR_sorted hO l [] List.Pairwise.nil (fun y hy => by cases hy) hl
theorem bef_unique (hO : SWO lt) {a b : List α} (ha : a.Pairwise (Bef lt ix)) (hb : b.Pairwise (Bef lt ix)) (h : a.Perm b) : a = b := by
  refine List.Perm.eq_of_pairwise (fun x y _ _ h1 h2 => ?_) ha hb h
  rcases h1 with h1 | h1
  · have := h2.nlt hO; rw [h1] at this; cases this
  · rcases h2 with h2 | h2
    · have := h1.1; rw [h2] at this; cases this
    · omega
end
/-- What sort.SliceStable leaves behind, read as a list. -/
theorem stable_list {α : Type} [Inhabited α] {lt : α → α → Bool} (hO : SWO lt) (l : List α) (d' : Array (α × Nat)) (hp : PermIn 0 l.length l.zipIdx.toArray d') (hs : SS (fun a b => lt a.1 b.1) Prod.snd 0 l.length d') :
    d'.toList.map Prod.fst = nsort lt l := by
  have hO' : SWO (fun a b : α × Nat => lt a.1 b.1) := ⟨fun x => hO.irrefl _, fun x y z => hO.trans _ _ _, fun x y z => hO.ntrans _ _ _⟩
  have hsz : d'.size = l.length := by rw [hp.1]; simp
  have hperm : d'.toList.Perm l.zipIdx := by
    have h := hp.2.2
    rw [show l.length = d'.size from hsz.symm] at h
    have e1 : (d'.extract 0 d'.size) = d' := by simp
    have e2 : (l.zipIdx.toArray.extract 0 d'.size) = l.zipIdx.toArray := by rw [hsz, show l.length = l.zipIdx.toArray.size by simp]; exact Array.extract_size
    rw [e1, e2] at h
    simpa using h
  have hx : l.zipIdx.Pairwise (fun a b : α × Nat => a.2 < b.2) := by
    have h : (l.zipIdx.map Prod.snd).Pairwise (· < ·) := by
      rw [List.zipIdx_map_snd]
      exact List.pairwise_lt_range'
    rwa [List.pairwise_map] at h
  have hd : d'.toList.Pairwise (Bef (fun a b : α × Nat => lt a.1 b.1) Prod.snd) := by
    rw [List.pairwise_iff_getElem]
    intro i j hi hj hij
    have := hs i j (Nat.zero_le _) hij (by simpa [hsz] using hj)
    rw [getElem!_pos d' i (by simpa using hi), getElem!_pos d' j (by simpa using hj)] at this
    simpa using this
  have e := bef_unique hO' hd (nsort_sorted hO' l.zipIdx hx) (hperm.trans (nsort_perm _).symm)
  rw [e, nsort_map (lt := lt) Prod.fst, List.zipIdx_map_fst]
theorem zip_inc {α : Type} [Inhabited α] (l : List α) (p q : Nat) (h : p < q) (hq : q < l.zipIdx.toArray.size) : (l.zipIdx.toArray[p]!).2 < (l.zipIdx.toArray[q]!).2 := by
  have hq' : q < l.length := by simpa using hq
  rw [getElem!_pos _ p (by simp; omega), getElem!_pos _ q hq]
  simp
  omega
end Go.Proofs.YtfpfjnmjekjnhaaGreatDoor.Srt
