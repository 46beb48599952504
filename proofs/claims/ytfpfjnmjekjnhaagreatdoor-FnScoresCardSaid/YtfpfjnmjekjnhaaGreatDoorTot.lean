/-
  Plain lemmas on the printed functions: a function with a bound on rounds comes, from some bound on, to one answer, of which something holds.
-/
import Derived.Test.YtfpfjnmjekjnhaaGreatDoorWWords
import Derived.Test.YtfpfjnmjekjnhaaGreatDoorWMore
namespace Go.Proofs.YtfpfjnmjekjnhaaGreatDoor.Tot
open Go.RowKit Go.Proofs.YtfpfjnmjekjnhaaGreatDoorW.PrintWords

/-- From some number of rounds on, g answers one r, and Q r. -/
def Tot {α : Type} (g : Nat → Option α) (Q : α → Prop) : Prop := ∃ r, Ev g r ∧ Q r

theorem tsome {α : Type} {r : α} {Q : α → Prop} (h : Q r) : Tot (fun _ => some r) Q := ⟨r, Ev.now r, h⟩
theorem tbind {α β : Type} {g : Nat → Option α} {f : Nat → α → Option β} {Q : α → Prop} {R : β → Prop} (h : Tot g Q) (k : ∀ a, Q a → Tot (fun n => f n a) R) : Tot (fun n => (g n).bind (f n)) R := by
  obtain ⟨a, ha, hq⟩ := h
  obtain ⟨b, hb, hr⟩ := k a hq
  exact ⟨b, ha.bind hb, hr⟩
theorem tite {α : Type} {c : Prop} [Decidable c] {g f : Nat → Option α} {Q : α → Prop} (h1 : c → Tot g Q) (h2 : ¬ c → Tot f Q) : Tot (fun n => if c then g n else f n) Q := by
  by_cases h : c
  · simp only [if_pos h]; exact h1 h
  · simp only [if_neg h]; exact h2 h
theorem tpos {α : Type} {c : Prop} [Decidable c] {g f : Nat → Option α} {Q : α → Prop} (hc : c) (h : Tot g Q) : Tot (fun n => if c then g n else f n) Q := by
  simp only [if_pos hc]; exact h
theorem tneg {α : Type} {c : Prop} [Decidable c] {g f : Nat → Option α} {Q : α → Prop} (hc : ¬ c) (h : Tot f Q) : Tot (fun n => if c then g n else f n) Q := by
  simp only [if_neg hc]; exact h
theorem tmono {α : Type} {g : Nat → Option α} {Q R : α → Prop} (h : Tot g Q) (k : ∀ a, Q a → R a) : Tot g R := by
  obtain ⟨a, ha, hq⟩ := h
  exact ⟨a, ha, k a hq⟩
theorem tstep {α : Type} {g : Nat → Option α} {Q : α → Prop} (h : Tot (fun k => g (k + 1)) Q) : Tot g Q := by
  obtain ⟨a, ⟨K, ha⟩, hq⟩ := h
  refine ⟨a, ⟨K + 1, fun n hn => ?_⟩, hq⟩
  obtain ⟨m, rfl⟩ : ∃ m, n = m + 1 := ⟨n - 1, by omega⟩
  exact ha m (by omega)
theorem tand {α : Type} {g : Nat → Option α} {Q R : α → Prop} (h : Tot g Q) (k : Tot g R) : Tot g (fun a => Q a ∧ R a) := by
  obtain ⟨a, ⟨K, ha⟩, hq⟩ := h
  obtain ⟨b, ⟨L, hb⟩, hr⟩ := k
  have h1 := ha (max K L) (by omega)
  have h2 := hb (max K L) (by omega)
  rw [h1] at h2
  injection h2 with h2
  subst h2
  exact ⟨a, ⟨K, ha⟩, hq, hr⟩
/-- Well-founded: each round's rest is less. -/
theorem trec {σ α : Type} (G : σ → Nat → Option α) (m : σ → Nat) (I : σ → Prop) (Q : σ → α → Prop)
    (h : ∀ s, I s → (∀ s', I s' → m s' < m s → Tot (G s') (Q s')) → Tot (fun k => G s (k + 1)) (Q s)) : ∀ s, I s → Tot (G s) (Q s) := by
  have key : ∀ d s, m s = d → I s → Tot (G s) (Q s) := by
    intro d
    induction d using Nat.strongRecOn with
    | ind d ih =>
      intro s hs hI
      subst hs
      exact tstep (h s hI (fun s' hI' hm => ih (m s') hm s' rfl hI'))
  exact fun s hI => key _ s rfl hI
theorem rounds {g : Nat → Option Bool} (h : Tot g (fun b => b = true)) : ∃ k, g k = some true := by
  obtain ⟨b, ⟨K, hK⟩, rfl⟩ := h
  exact ⟨K, hK K (Nat.le_refl _)⟩

theorem wrap64_id {x : Int} (h : -9223372036854775808 ≤ x) (h' : x ≤ 9223372036854775807) : wrap64 x = x := by
  unfold wrap64; omega

theorem from_step {i n : Int} {C : Int → Prop} (hi : i < n) : (∀ j, i ≤ j → j < n → C j) ↔ C i ∧ ∀ j, i + 1 ≤ j → j < n → C j :=
  ⟨fun h => ⟨h i (Int.le_refl i) hi, fun j h1 h2 => h j (by omega) h2⟩, fun ⟨h, k⟩ j h1 h2 => by
    by_cases e : j = i
    · rw [e]; exact h
    · exact k j (by omega) h2⟩
theorem from_end {i n : Int} {C : Int → Prop} (hi : ¬ i < n) : (∀ j, i ≤ j → j < n → C j) ↔ True := ⟨fun _ => trivial, fun _ j h1 h2 => by omega⟩
/-- A round of a loop that asks all: no. -/
theorem all_no {i n : Int} {C : Int → Prop} {R : Prop} (hi : i < n) (hc : ¬ C i) : (false = true) ↔ ((∀ j, i ≤ j → j < n → C j) ∧ R) :=
  ⟨(fun h => by cases h), (fun h => absurd (h.1 i (Int.le_refl i) hi) hc)⟩
theorem all_go {i n : Int} {C : Int → Prop} {R : Prop} {b : Bool} (hi : i < n) (hc : C i) (h : b = true ↔ ((∀ j, i + 1 ≤ j → j < n → C j) ∧ R)) : b = true ↔ ((∀ j, i ≤ j → j < n → C j) ∧ R) := by
  rw [h, from_step hi]
  exact ⟨fun ⟨h1, h2⟩ => ⟨⟨hc, h1⟩, h2⟩, fun ⟨⟨_, h1⟩, h2⟩ => ⟨h1, h2⟩⟩
theorem all_end {i n : Int} {C : Int → Prop} {R : Prop} {b : Bool} (hi : ¬ i < n) (h : b = true ↔ R) : b = true ↔ ((∀ j, i ≤ j → j < n → C j) ∧ R) := by
  rw [h, from_end hi, true_and]

theorem ld_ext {α : Type} {z : α} {xs ys : List α} (hl : xs.length = ys.length) (h : ∀ j : Int, 0 ≤ j → j < xs.length → xs.getD j.toNat z = ys.getD j.toNat z) : xs = ys := by
  apply List.ext_getElem hl
  intro i h1 h2
  have := h (i : Int) (by omega) (by omega)
  simpa [List.getD, h1, h2] using this
theorem ld_mem {α : Type} {z : α} {xs : List α} (j : Int) (h : j < xs.length) (h0 : 0 ≤ j) : xs.getD j.toNat z ∈ xs := by
  have h1 : j.toNat < xs.length := by omega
  simp [List.getD, h1]
theorem ld_take {α : Type} {z : α} {xs : List α} (n : Nat) (j : Int) (h0 : 0 ≤ j) (h : j < n) : (xs.take n).getD j.toNat z = xs.getD j.toNat z := by
  have h1 : j.toNat < n := by omega
  simp [List.getD, h1]
end Go.Proofs.YtfpfjnmjekjnhaaGreatDoor.Tot
