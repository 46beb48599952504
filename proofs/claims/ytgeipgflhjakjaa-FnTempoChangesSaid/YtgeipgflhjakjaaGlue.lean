/-
  Opening arguments of a law's row: slices of structs of whole numbers, and structs of whole numbers, read as kinds of the printed words.
-/
import Derived.Test.YtgeipgflhjakjaaWSized
import Derived.Test.YtgeipgflhjakjaaWWords
import Derived.WalkKit
import Derived.ProofKit
import Derived.OpenShut
import Derived.ShutString
import Derived.ChangeOld
import Derived.Below
import Derived.SizedLaws
import Derived.Lib.SmallJoins
import Derived.Deep.Slices
namespace Go.Proofs.Ytgeipgflhjakjaa.Glue
open Go.ChangeShapes Go.WideShapes Go.Deep Go.Proofs.YtgeipgflhjakjaaW.PrintWords

/-- Cells that read at type t are those of some y of kind d, with ok y. -/
def Opens {α : Type} (P : Program) (t : TypeId) (d : Kd α) (ok : α → Prop) : Prop :=
  ∀ (H : Type) (enc : TypeId × Value → H) (w : World) (spare : Nat → Bool) (held : Bool) (fuel : Nat) (cs : List Value) (x : DataW H × List MemPlace),
    DataW.trod enc P w 0 spare held fuel t cs = some x → ∃ y, d.K w y cs ∧ ok y

def wf64 (n : Int) : Prop := -9223372036854775808 ≤ n ∧ n ≤ 9223372036854775807
theorem wf64_of {n : Int} (h : (Lit.int .i64 n).wf = true) : wf64 n := by
  have h2 := h
  unfold Lit.wf at h2
  simp only [Bool.and_eq_true, decide_eq_true_eq] at h2
  exact h2

theorem opens_int {P : Program} {t : TypeId} (ht : P.underlying t = some (.int .i64)) : Opens P t (Kd.int .i64) wf64 := by
  intro H enc w spare held fuel cs x h
  obtain ⟨n, rfl, _, hw⟩ := DataW.trod_int ht h
  exact ⟨n, rfl, wf64_of hw⟩

theorem opens_iso {α β : Type} {P : Program} {t : TypeId} {d : Kd α} {ok : α → Prop} (f : β → α) (g : α → β) (hg : ∀ a, f (g a) = a) (h : Opens P t d ok) : Opens P t (Kd.iso d f) (fun y => ok (f y)) := by
  intro H enc w spare held fuel cs x hx
  obtain ⟨y, hk, ho⟩ := h H enc w spare held fuel cs x hx
  exact ⟨g y, by show d.K w (f (g y)) cs; rw [hg]; exact hk, by show ok (f (g y)); rw [hg]; exact ho⟩

theorem two_of {cs : List Value} (h : cs.length = 2) : ∃ a b, cs = [a, b] := by
  match cs, h with
  | [a, b], _ => exact ⟨a, b, rfl⟩
theorem three_of {cs : List Value} (h : cs.length = 3) : ∃ a b c, cs = [a, b, c] := by
  match cs, h with
  | [a, b, c], _ => exact ⟨a, b, c, rfl⟩

theorem opens_two {P : Program} {t : TypeId} {f0 f1 : Field} (hs : P.underlying t = some (.struct #[f0, f1])) (hone : oneCellFields P #[f0, f1] = true) (hC : P.cellsOf t = 2)
    (h0 : P.underlying f0.type = some (.int .i64)) (h1 : P.underlying f1.type = some (.int .i64)) :
    Opens P t (Kd.pair (Kd.int .i64) (Kd.int .i64)) (fun y => wf64 y.1 ∧ wf64 y.2) := by
  intro H enc w spare held fuel cs x h
  obtain ⟨y0, y1, n, _, hl, g0, g1⟩ := trod_struct2 hs h
  obtain ⟨o0, k0⟩ := hone_of hone 0 f0 rfl
  obtain ⟨o1, k1⟩ := hone_of hone 1 f1 rfl
  obtain ⟨c0, c1, rfl⟩ := two_of (hl.trans hC)
  obtain ⟨n0, e0, _, w0⟩ := DataW.trod_int h0 (by simpa [o0, k0] using g0)
  obtain ⟨n1, e1, _, w1⟩ := DataW.trod_int h1 (by simpa [o1, k1] using g1)
  obtain rfl : c0 = .int .i64 n0 := by simpa using e0
  obtain rfl : c1 = .int .i64 n1 := by simpa using e1
  exact ⟨(n0, n1), ⟨[_], [_], rfl, rfl, rfl⟩, wf64_of w0, wf64_of w1⟩

theorem opens_three {P : Program} {t : TypeId} {f0 f1 f2 : Field} (hs : P.underlying t = some (.struct #[f0, f1, f2])) (hone : oneCellFields P #[f0, f1, f2] = true) (hC : P.cellsOf t = 3)
    (h0 : P.underlying f0.type = some (.int .i64)) (h1 : P.underlying f1.type = some (.int .i64)) (h2 : P.underlying f2.type = some (.int .i64)) :
    Opens P t (Kd.pair (Kd.int .i64) (Kd.pair (Kd.int .i64) (Kd.int .i64))) (fun y => wf64 y.1 ∧ wf64 y.2.1 ∧ wf64 y.2.2) := by
  intro H enc w spare held fuel cs x h
  obtain ⟨y0, y1, y2, n, _, hl, g0, g1, g2⟩ := trod_struct3 hs h
  obtain ⟨o0, k0⟩ := hone_of hone 0 f0 rfl
  obtain ⟨o1, k1⟩ := hone_of hone 1 f1 rfl
  obtain ⟨o2, k2⟩ := hone_of hone 2 f2 rfl
  obtain ⟨c0, c1, c2, rfl⟩ := three_of (hl.trans hC)
  obtain ⟨n0, e0, _, w0⟩ := DataW.trod_int h0 (by simpa [o0, k0] using g0)
  obtain ⟨n1, e1, _, w1⟩ := DataW.trod_int h1 (by simpa [o1, k1] using g1)
  obtain ⟨n2, e2, _, w2⟩ := DataW.trod_int h2 (by simpa [o2, k2] using g2)
  obtain rfl : c0 = .int .i64 n0 := by simpa using e0
  obtain rfl : c1 = .int .i64 n1 := by simpa using e1
  obtain rfl : c2 = .int .i64 n2 := by simpa using e2
  exact ⟨(n0, n1, n2), ⟨[_], [_, _], rfl, rfl, [_], [_], rfl, rfl, rfl⟩, wf64_of w0, wf64_of w1, wf64_of w2⟩

theorem list_of {β : Type} {n : Nat} {p : Nat → β → Prop} (h : ∀ i, i < n → ∃ y, p i y) : ∃ xs : List β, xs.length = n ∧ ∀ i y, xs[i]? = some y → p i y := by
  induction n with
  | zero => exact ⟨[], rfl, fun i y hy => by simp at hy⟩
  | succ n ih =>
    obtain ⟨xs, hl, hp⟩ := ih (fun i hi => h i (by omega))
    obtain ⟨y, hy⟩ := h n (by omega)
    refine ⟨xs ++ [y], by simp [hl], fun i z hz => ?_⟩
    by_cases hi : i < n
    · rw [List.getElem?_append_left (by omega)] at hz
      exact hp i z hz
    · have hlt : i < (xs ++ [y]).length := (List.getElem?_eq_some_iff.1 hz).1
      simp [hl] at hlt
      obtain rfl : i = n := by omega
      rw [List.getElem?_append_right (by omega)] at hz
      simp [hl] at hz
      subst hz
      exact hy

/-- A slice whose elements open. -/
theorem opens_slice {α H : Type} {enc : TypeId × Value → H} {P : Program} {t e : TypeId} {d : Kd α} {ok : α → Prop} (he : Opens P e d ok) (ht : P.underlying t = some (.slice e)) (hsz : P.cellsOf e = d.sz)
    {w : World} {spare : Nat → Bool} {held : Bool} {fuel : Nat} {cs : List Value} {x : DataW H × List MemPlace} (h : DataW.trod enc P w 0 spare held fuel t cs = some x) :
    ∃ (A : Option Addr) (c : Nat) (xs : List α), cs = [.slice A xs.length c] ∧ xs.length ≤ c ∧ Kd.C d w A xs.length xs ∧ (∀ y ∈ xs, ok y) ∧ xs.length ≤ 9223372036854775807 := by
  rcases open_slice ht h with ⟨rfl, _⟩ | ⟨a, len, cap, m, n, D, Pl, rfl, _, hl, hm, hmm, _, hx⟩
  · exact ⟨none, 0, [], rfl, Nat.le_refl _, ⟨rfl, by simp, fun h => absurd h (Nat.lt_irrefl _)⟩, by simp, by simp⟩
  · have hlm : len ≤ m := by rw [hmm]; split <;> omega
    obtain ⟨xs, hlen, hp⟩ := list_of (n := len) (p := fun i (y : α) => ok y ∧ ∃ c, c.length = d.sz ∧ d.K w y c ∧ ∀ j u, c[j]? = some u → w.cell? (a.add (i * d.sz + j)) = some u) (fun i hi => by
      obtain ⟨cs', h1, h2⟩ := hx i (by omega)
      obtain ⟨y, hy, ho⟩ := he H enc w spare held n cs' _ h2
      obtain ⟨_, hcl, hc⟩ := World.cells?_some h1
      refine ⟨y, ho, cs', hcl.trans hsz, hy, fun j u hu => ?_⟩
      have hj : j < P.cellsOf e := by have := (List.getElem?_eq_some_iff.1 hu).1; omega
      rw [← hsz, ← Deep.add_add, hc j hj, hu])
    subst hlen
    unfold maxLen at hm
    refine ⟨some a, cap, xs, rfl, hl, ⟨rfl, by omega, fun _ => ⟨a, rfl, fun j p hj => (hp j p hj).2⟩⟩, fun y hy => ?_, by omega⟩
    obtain ⟨i, hi⟩ := List.mem_iff_getElem?.1 hy
    exact (hp i y hi).1

theorem opens_ints {H : Type} {enc : TypeId × Value → H} {P : Program} {t e : TypeId} (he : P.underlying e = some (.int .i64)) (ht : P.underlying t = some (.slice e)) (hsz : P.cellsOf e = 1)
    {w : World} {spare : Nat → Bool} {held : Bool} {fuel : Nat} {cs : List Value} {x : DataW H × List MemPlace} (h : DataW.trod enc P w 0 spare held fuel t cs = some x) :
    ∃ (A : Option Addr) (c : Nat) (xs : List Int), cs = [.slice A xs.length c] ∧ xs.length ≤ c ∧ Kd.C (Kd.int .i64) w A xs.length xs ∧ (∀ y ∈ xs, wf64 y) ∧ xs.length ≤ 9223372036854775807 :=
  opens_slice (opens_int he) ht hsz h
end Go.Proofs.Ytgeipgflhjakjaa.Glue
