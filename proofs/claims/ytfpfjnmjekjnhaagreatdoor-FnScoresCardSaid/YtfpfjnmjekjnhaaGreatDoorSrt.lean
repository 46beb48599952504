/-
  The plain side of sort.SliceStable beyond one block: rotations, the merge by symmetric comparisons, and that the order so made is the stable one.
-/
import Derived.Sort.LotA
set_option linter.unusedVariables false
set_option linter.unusedSectionVars false
namespace Go.Proofs.YtfpfjnmjekjnhaaGreatDoor.Srt
open Go.Sort
variable {α : Type} [Inhabited α] {lt : α → α → Bool} {ix : α → Nat}

/-- x may stand ahead of y: it is less, or it is no greater and stood ahead at first. -/
def Bef (lt : α → α → Bool) (ix : α → Nat) (x y : α) : Prop := lt x y = true ∨ (lt y x = false ∧ ix x < ix y)
theorem Bef.nlt (hO : SWO lt) {x y : α} (h : Bef lt ix x y) : lt y x = false := by
  rcases h with h | h
  · exact hO.asymmA h
  · exact h.1
/-- In order on a ≤ i < b. -/
def SS (lt : α → α → Bool) (ix : α → Nat) (a b : Nat) (d : Array α) : Prop := ∀ i j, a ≤ i → i < j → j < b → Bef lt ix d[i]! d[j]!
theorem SS.nlt (hO : SWO lt) {a b : Nat} {d : Array α} (h : SS lt ix a b d) (i j : Nat) (hi : a ≤ i) (hij : i ≤ j) (hj : j < b) : lt d[j]! d[i]! = false := by
  by_cases e : i = j
  · rw [e]; exact hO.irrefl _
  · exact (h i j hi (by omega) hj).nlt hO
theorem SS.short {a b : Nat} {d : Array α} (h : b ≤ a + 1) : SS lt ix a b d := fun i j h1 h2 h3 => by omega
theorem SS.congr {a b : Nat} {d e : Array α} (h : SS lt ix a b d) (he : ∀ k, a ≤ k → k < b → e[k]! = d[k]!) : SS lt ix a b e := fun i j h1 h2 h3 => by
  rw [he i h1 (by omega), he j (by omega) h3]; exact h i j h1 h2 h3

/-- What lies at k when the blocks [lo, mid) and [mid, hi) have changed places. -/
def rv (d : Array α) (lo mid hi k : Nat) : α := if lo ≤ k ∧ k < lo + (hi - mid) then d[k + (mid - lo)]! else if lo + (hi - mid) ≤ k ∧ k < hi then d[k - (hi - mid)]! else d[k]!
theorem rv_lo {d : Array α} {lo mid hi k : Nat} (h : lo ≤ k) (h2 : k < lo + (hi - mid)) : rv d lo mid hi k = d[k + (mid - lo)]! := if_pos ⟨h, h2⟩
theorem rv_hi {d : Array α} {lo mid hi k : Nat} (h : lo + (hi - mid) ≤ k) (h2 : k < hi) : rv d lo mid hi k = d[k - (hi - mid)]! := by
  unfold rv; rw [if_neg (by omega), if_pos ⟨h, h2⟩]
theorem rv_out {d : Array α} {lo mid hi k : Nat} (hm : mid ≤ hi) (hl : lo ≤ mid) (h : k < lo ∨ hi ≤ k) : rv d lo mid hi k = d[k]! := by
  unfold rv; rw [if_neg (by omega), if_neg (by omega)]
theorem rv_none {d : Array α} {lo mid hi k : Nat} (h : lo = mid ∨ mid = hi) (hm : mid ≤ hi) (hl : lo ≤ mid) : rv d lo mid hi k = d[k]! := by
  unfold rv
  rcases h with h | h
  · subst h
    split
    · rw [show k + (lo - lo) = k by omega]
    · rw [if_neg (by omega)]
  · subst h
    rw [if_neg (by omega)]
    split
    · rw [show k - (mid - mid) = k by omega]
    · rfl
structure Rot (lo mid hi : Nat) (d e : Array α) : Prop where
  size : e.size = d.size
  at_ : ∀ k, e[k]! = rv d lo mid hi k
  perm : PermIn lo hi d e
theorem Rot.refl {lo mid hi : Nat} (d : Array α) (h : lo = mid ∨ mid = hi) (hm : mid ≤ hi) (hl : lo ≤ mid) : Rot lo mid hi d d := ⟨rfl, fun k => (rv_none h hm hl).symm, permIn_refl d lo hi⟩

/-- The first i of n pairs at x, y have changed places. -/
structure SwapR (x y n : Nat) (d e : Array α) : Prop where
  size : e.size = d.size
  lo : ∀ k, x ≤ k → k < x + n → e[k]! = d[k - x + y]!
  hi : ∀ k, y ≤ k → k < y + n → e[k]! = d[k - y + x]!
  out : ∀ k, ¬ (x ≤ k ∧ k < x + n) → ¬ (y ≤ k ∧ k < y + n) → e[k]! = d[k]!
theorem SwapR.zero (x y : Nat) (d : Array α) : SwapR x y 0 d d := ⟨rfl, fun k h h2 => by omega, fun k h h2 => by omega, fun _ _ _ => rfl⟩
theorem SwapR.succ {x y i : Nat} {d e : Array α} (h : SwapR x y i d e) (hxy : x + i < y) (hy : y + i < d.size) : SwapR x y (i + 1) d (swp e (x + i) (y + i)) := by
  have g := swp_get e (show x + i < e.size by rw [h.size]; omega) (show y + i < e.size by rw [h.size]; omega)
  refine ⟨by rw [swp_size, h.size], fun k h1 h2 => ?_, fun k h1 h2 => ?_, fun k h1 h2 => ?_⟩
  · rw [g, if_neg (by omega)]
    by_cases e1 : k = x + i
    · rw [if_pos e1, h.out (y + i) (by omega) (by omega), show k - x + y = y + i by omega]
    · rw [if_neg e1, h.lo k h1 (by omega)]
  · rw [g]
    by_cases e1 : k = y + i
    · rw [if_pos e1, h.out (x + i) (by omega) (by omega), show k - y + x = x + i by omega]
    · rw [if_neg e1, if_neg (by omega), h.hi k h1 (by omega)]
  · rw [g, if_neg (by omega), if_neg (by omega), h.out k (by omega) (by omega)]

/-- One round of rotate_func, the left block longer. -/
theorem rot_left {m i j : Nat} {d e : Array α} (hij : j < i) (hj : 0 < j) (hi : i ≤ m) (h : SwapR (m - i) m j d e) (k : Nat) : rv e (m - (i - j)) m (m + j) k = rv d (m - i) m (m + j) k := by
  by_cases c1 : k < m - i
  · rw [rv_out (by omega) (by omega) (by omega), rv_out (by omega) (by omega) (by omega), h.out k (by omega) (by omega)]
  · by_cases c2 : k < m - i + j
    · rw [rv_out (by omega) (by omega) (by omega), rv_lo (by omega) (by omega), h.lo k (by omega) (by omega)]
      congr 1; omega
    · by_cases c3 : k < m - i + 2 * j
      · rw [rv_lo (by omega) (by omega), rv_hi (by omega) (by omega)]
        by_cases c4 : m ≤ k + (i - j)
        · rw [show k + (m - (m - (i - j))) = k + (i - j) by omega, h.hi (k + (i - j)) c4 (by omega)]
          congr 1; omega
        · omega
      · by_cases c5 : k < m + j
        · rw [rv_hi (by omega) c5, rv_hi (by omega) c5, h.out _ (by omega) (by omega)]
        · rw [rv_out (by omega) (by omega) (by omega), rv_out (by omega) (by omega) (by omega), h.out k (by omega) (by omega)]
/-- .. the right block longer. -/
theorem rot_right {m i j : Nat} {d e : Array α} (hij : i < j) (hi0 : 0 < i) (hi : i ≤ m) (h : SwapR (m - i) (m + j - i) i d e) (k : Nat) : rv e (m - i) m (m + (j - i)) k = rv d (m - i) m (m + j) k := by
  by_cases c1 : k < m - i
  · rw [rv_out (by omega) (by omega) (by omega), rv_out (by omega) (by omega) (by omega), h.out k (by omega) (by omega)]
  · by_cases c2 : k < m - i + (j - i)
    · rw [rv_lo (by omega) (by omega), rv_lo (by omega) (by omega), h.out _ (by omega) (by omega)]
    · by_cases c3 : k < m + (j - i)
      · rw [rv_hi (by omega) c3, rv_lo (by omega) (by omega), h.lo _ (by omega) (by omega)]
        congr 1; omega
      · by_cases c4 : k < m + j
        · rw [rv_out (by omega) (by omega) (by omega), rv_hi (by omega) c4, h.hi _ (by omega) (by omega)]
          congr 1; omega
        · rw [rv_out (by omega) (by omega) (by omega), rv_out (by omega) (by omega) (by omega), h.out k (by omega) (by omega)]
/-- .. both as long: the end. -/
theorem rot_same {m i : Nat} {d e : Array α} (hi : i ≤ m) (h : SwapR (m - i) m i d e) (k : Nat) : e[k]! = rv d (m - i) m (m + i) k := by
  by_cases c1 : m - i ≤ k ∧ k < m
  · rw [rv_lo c1.1 (by omega), h.lo k c1.1 (by omega)]
    congr 1; omega
  · by_cases c2 : m ≤ k ∧ k < m + i
    · rw [rv_hi (by omega) c2.2, h.hi k c2.1 c2.2]
      congr 1; omega
    · rw [rv_out (by omega) (by omega) (by omega), h.out k (by omega) (by omega)]

/-- data[a] has gone up to k. -/
structure Up (a k : Nat) (d e : Array α) : Prop where
  size : e.size = d.size
  lo : ∀ t, a ≤ t → t < k → e[t]! = d[t + 1]!
  me : e[k]! = d[a]!
  out : ∀ t, t < a ∨ k < t → e[t]! = d[t]!
theorem Up.zero (a : Nat) (d : Array α) : Up a a d d := ⟨rfl, fun t h h2 => by omega, rfl, fun _ _ => rfl⟩
theorem Up.succ {a k : Nat} {d e : Array α} (h : Up a k d e) (ha : a ≤ k) (hk : k + 1 < d.size) : Up a (k + 1) d (swp e k (k + 1)) := by
  have g := swp_get e (show k < e.size by rw [h.size]; omega) (show k + 1 < e.size by rw [h.size]; omega)
  refine ⟨by rw [swp_size, h.size], fun t h1 h2 => ?_, ?_, fun t h1 => ?_⟩
  · rw [g, if_neg (by omega)]
    by_cases e1 : t = k
    · rw [if_pos e1, h.out (k + 1) (by omega), e1]
    · rw [if_neg e1, h.lo t h1 (by omega)]
  · rw [g, if_pos rfl, h.me]
  · rw [g, if_neg (by omega), if_neg (by omega), h.out t (by omega)]
theorem Up.rot {a i : Nat} {d e : Array α} (hi : a + 1 ≤ i) (h : Up a (i - 1) d e) (hp : PermIn a i d e) : Rot a (a + 1) i d e := by
  refine ⟨h.size, fun k => ?_, hp⟩
  by_cases c1 : a ≤ k ∧ k < i - 1
  · rw [rv_lo c1.1 (by omega), h.lo k c1.1 c1.2]
    congr 1; omega
  · by_cases c2 : k = i - 1
    · rw [rv_hi (by omega) (by omega), c2, h.me]
      congr 1; omega
    · rw [rv_out (by omega) (by omega) (by omega), h.out k (by omega)]
/-- data[m] has gone down to k. -/
structure Dn (m k : Nat) (d e : Array α) : Prop where
  size : e.size = d.size
  hi : ∀ t, k < t → t ≤ m → e[t]! = d[t - 1]!
  me : e[k]! = d[m]!
  out : ∀ t, t < k ∨ m < t → e[t]! = d[t]!
theorem Dn.zero (m : Nat) (d : Array α) : Dn m m d d := ⟨rfl, fun t h h2 => by omega, rfl, fun _ _ => rfl⟩
theorem Dn.succ {m k : Nat} {d e : Array α} (h : Dn m (k + 1) d e) (hk : k + 1 ≤ m) (hm : m < d.size) : Dn m k d (swp e (k + 1) k) := by
  have g := swp_get e (show k + 1 < e.size by rw [h.size]; omega) (show k < e.size by rw [h.size]; omega)
  refine ⟨by rw [swp_size, h.size], fun t h1 h2 => ?_, ?_, fun t h1 => ?_⟩
  · rw [g, if_neg (by omega)]
    by_cases e1 : t = k + 1
    · rw [if_pos e1, h.out k (by omega), e1]; rfl
    · rw [if_neg e1, h.hi t (by omega) h2]
  · rw [g, if_pos rfl, h.me]
  · rw [g, if_neg (by omega), if_neg (by omega), h.out t (by omega)]
theorem Dn.rot {m i : Nat} {d e : Array α} (hi : i ≤ m) (h : Dn m i d e) (hp : PermIn i (m + 1) d e) : Rot i m (m + 1) d e := by
  refine ⟨h.size, fun k => ?_, hp⟩
  by_cases c1 : k = i
  · rw [rv_lo (by omega) (by omega), c1, h.me]
    congr 1; omega
  · by_cases c2 : i < k ∧ k ≤ m
    · rw [rv_hi (by omega) (by omega), h.hi k c2.1 c2.2]
      congr 1; omega
    · rw [rv_out (by omega) (by omega) (by omega), h.out k (by omega)]

/-- Two neighbours, each in order, all of the left ones from ahead of all of the right ones. -/
structure Mg (lt : α → α → Bool) (ix : α → Nat) (a m b : Nat) (d : Array α) : Prop where
  l : SS lt ix a m d
  r : SS lt ix m b d
  i : ∀ u v, a ≤ u → u < m → m ≤ v → v < b → ix d[u]! < ix d[v]!
/-- Nothing is left to be done. -/
theorem Mg.done (hO : SWO lt) {a m b : Nat} {d : Array α} (h : Mg lt ix a m b d) (ha : a ≤ m) (hb : m ≤ b) (c : m = a ∨ m = b ∨ lt d[m]! d[m - 1]! = false) : SS lt ix a b d := by
  intro i j hi hij hj
  by_cases h1 : j < m
  · exact h.l i j hi hij h1
  · by_cases h2 : m ≤ i
    · exact h.r i j h2 hij hj
    · refine Or.inr ⟨?_, h.i i j hi (by omega) (by omega) hj⟩
      rcases c with c | c | c
      · omega
      · omega
      · exact hO.ntrans _ _ _ (hO.ntrans _ _ _ (h.r.nlt hO m j (Nat.le_refl _) (by omega) hj) c) (h.l.nlt hO i (m - 1) hi (by omega) (by omega))
/-- The middle of symMerge_func: [start, m) and [m, fin) have changed places; mid = start + (fin - m). -/
theorem Mg.mid (hO : SWO lt) {a m b start fin : Nat} {d e : Array α} (h : Mg lt ix a m b d) (h1 : a ≤ start) (h2 : start ≤ m) (h3 : m ≤ fin) (h4 : fin ≤ b) (hR : Rot start m fin d e)
    (C1 : start = a ∨ fin = b ∨ lt d[fin]! d[start - 1]! = false) (C2 : start = m ∨ fin = m ∨ lt d[fin - 1]! d[start]! = true) :
    Mg lt ix a start (start + (fin - m)) e ∧ Mg lt ix (start + (fin - m)) fin b e ∧ ∀ u v, a ≤ u → u < start + (fin - m) → start + (fin - m) ≤ v → v < b → Bef lt ix e[u]! e[v]! := by
  have g1 : ∀ k, k < start → e[k]! = d[k]! := fun k hk => by rw [hR.at_, rv_out h3 h2 (Or.inl hk)]
  have g2 : ∀ k, start ≤ k → k < start + (fin - m) → e[k]! = d[k + (m - start)]! := fun k hk hk2 => by rw [hR.at_, rv_lo hk hk2]
  have g3 : ∀ k, start + (fin - m) ≤ k → k < fin → e[k]! = d[k - (fin - m)]! := fun k hk hk2 => by rw [hR.at_, rv_hi hk hk2]
  have g4 : ∀ k, fin ≤ k → e[k]! = d[k]! := fun k hk => by rw [hR.at_, rv_out h3 h2 (Or.inr hk)]
  refine ⟨⟨fun i j hi hij hj => by rw [g1 i (by omega), g1 j hj]; exact h.l i j hi hij (by omega), ?_, ?_⟩, ⟨?_, ?_, ?_⟩, ?_⟩
  · intro i j hi hij hj
    rw [g2 i hi (by omega), g2 j (by omega) hj]
    exact h.r _ _ (by omega) (by omega) (by omega)
  · intro u v hu hu2 hv hv2
    rw [g1 u hu2, g2 v hv hv2]
    exact h.i _ _ hu (by omega) (by omega) (by omega)
  · intro i j hi hij hj
    rw [g3 i hi (by omega), g3 j (by omega) hj]
    exact h.l _ _ (by omega) (by omega) (by omega)
  · intro i j hi hij hj
    rw [g4 i hi, g4 j (by omega)]
    exact h.r _ _ (by omega) hij hj
  · intro u v hu hu2 hv hv2
    rw [g3 u hu hu2, g4 v hv]
    exact h.i _ _ (by omega) (by omega) (by omega) hv2
  · intro u v hu hu2 hv hv2
    by_cases k1 : u < start
    · rw [g1 u k1]
      by_cases k2 : v < fin
      · rw [g3 v hv k2]
        exact h.l _ _ hu (by omega) (by omega)
      · rw [g4 v (by omega)]
        refine Or.inr ⟨?_, h.i _ _ hu (by omega) (by omega) hv2⟩
        rcases C1 with c | c | c
        · omega
        · omega
        · exact hO.ntrans _ _ _ (hO.ntrans _ _ _ (h.r.nlt hO fin v h3 (by omega) hv2) c) (h.l.nlt hO u (start - 1) hu (by omega) (by omega))
    · rw [g2 u (by omega) hu2]
      by_cases k2 : v < fin
      · rw [g3 v hv k2]
        refine Or.inl ?_
        rcases C2 with c | c | c
        · omega
        · omega
        · cases hc : lt d[u + (m - start)]! d[v - (fin - m)]! with
          | true => rfl
          | false =>
            have q1 := h.r.nlt hO (u + (m - start)) (fin - 1) (by omega) (by omega) (by omega)
            have q2 := h.l.nlt hO start (v - (fin - m)) (by omega) (by omega) (by omega)
            have := hO.ntrans _ _ _ (hO.ntrans _ _ _ q1 hc) q2
            rw [c] at this
            exact absurd this (by decide)
      · rw [g4 v (by omega)]
        exact h.r _ _ (by omega) (by omega) hv2
/-- The two halves, each brought into order by itself. -/
theorem join_halves {a mid b : Nat} {e e1 e2 : Array α} (hb : b ≤ e.size) (ha : a ≤ mid) (hm : mid ≤ b) (hx : ∀ u v, a ≤ u → u < mid → mid ≤ v → v < b → Bef lt ix e[u]! e[v]!)
    (p1 : PermIn a mid e e1) (s1 : SS lt ix a mid e1) (p2 : PermIn mid b e1 e2) (s2 : SS lt ix mid b e2) : PermIn a b e e2 ∧ SS lt ix a b e2 := by
  refine ⟨permIn_trans _ _ _ a b (permIn_mono e e1 a mid a b (Nat.le_refl _) hm hb p1) (permIn_mono e1 e2 mid b a b ha (Nat.le_refl _) (by rw [p1.1]; exact hb) p2), ?_⟩
  have x1 : ∀ u, a ≤ u → u < mid → ∀ v, mid ≤ v → v < b → Bef lt ix e1[u]! e[v]! := fun u hu hu2 =>
    permIn_all e e1 a mid (fun x => ∀ v, mid ≤ v → v < b → Bef lt ix x e[v]!) (by omega) p1 (fun u hu hu2 v hv hv2 => hx u v hu hu2 hv hv2) u hu hu2
  intro i j hi hij hj
  by_cases h1 : j < mid
  · rw [p2.2.1 i (Or.inl (by omega)), p2.2.1 j (Or.inl h1)]
    exact s1 i j hi hij h1
  · by_cases h2 : mid ≤ i
    · exact s2 i j h2 hij hj
    · rw [p2.2.1 i (Or.inl (by omega))]
      exact permIn_all e1 e2 mid b (fun y => Bef lt ix e1[i]! y) (by rw [p1.1]; exact hb) p2 (fun v hv hv2 => by rw [p1.2.1 v (Or.inr hv)]; exact x1 i hi (by omega) v hv hv2) j (by omega) hj

/-- [a, i] is in order BUT FOR THE PLACE j; what lies at j is less than all that lies to its right, and stood behind all that lies to its left. -/
structure InsS (lt : α → α → Bool) (ix : α → Nat) (a j i : Nat) (d : Array α) : Prop where
  rest : ∀ p q, a ≤ p → p < q → q ≤ i → p ≠ j → q ≠ j → Bef lt ix d[p]! d[q]!
  right : ∀ q, j < q → q ≤ i → lt d[j]! d[q]! = true
  ixl : ∀ p, a ≤ p → p < j → ix d[p]! < ix d[j]!
theorem InsS.stop (hO : SWO lt) {a j i : Nat} {d : Array α} (h : InsS lt ix a j i d) (hs : j ≤ a ∨ lt d[j]! d[j - 1]! = false) : SS lt ix a (i + 1) d := by
  intro p q hap hpq hqi
  by_cases hq : q = j
  · subst hq
    refine Or.inr ⟨?_, h.ixl p hap hpq⟩
    rcases hs with hs | hs
    · omega
    · by_cases hp : p = q - 1
      · subst hp; exact hs
      · exact hO.ntrans _ _ _ hs ((h.rest p (q - 1) hap (by omega) (by omega) (by omega) (by omega)).nlt hO)
  · by_cases hp : p = j
    · subst hp; exact Or.inl (h.right q hpq (by omega))
    · exact h.rest p q hap hpq (by omega) hp hq
theorem InsS.step {a j i : Nat} {d : Array α} (h : InsS lt ix a (j + 1) i d) (hl : lt d[j + 1]! d[j]! = true) (haj : a ≤ j) (hsz : j + 1 < d.size) : InsS lt ix a j i (swp d (j + 1) j) := by
  have g := swp_get d hsz (show j < d.size by omega)
  constructor
  · intro p q hap hpq hqi hp hq
    rw [g, g]
    by_cases hq1 : q = j + 1
    · subst hq1
      simp only [hq, hp, if_false, if_true, show p ≠ j + 1 by omega]
      exact h.rest p j hap (by omega) (by omega) (by omega) (by omega)
    · by_cases hp1 : p = j + 1
      · subst hp1
        simp only [hq, hp, hq1, if_false, if_true]
        exact h.rest j q haj (by omega) hqi (by omega) hq1
      · simp only [hq, hp, hq1, hp1, if_false]
        exact h.rest p q hap hpq hqi hp1 hq1
  · intro q hjq hqi
    rw [g, g]
    by_cases hq1 : q = j + 1
    · subst hq1
      simpa [show j + 1 ≠ j by omega] using hl
    · simp only [if_true, show q ≠ j by omega, hq1, if_false]
      exact h.right q (by omega) hqi
  · intro p hap hp
    rw [g, g, if_neg (by omega), if_neg (by omega), if_pos rfl]
    exact h.ixl p hap (by omega)
theorem insInner_stable (hO : SWO lt) (a i : Nat) : ∀ (j : Nat) (d : Array α), a ≤ j → j ≤ i → i < d.size → InsS lt ix a j i d → PermIn a (i + 1) d (insInner lt a j d) ∧ SS lt ix a (i + 1) (insInner lt a j d)
  | 0, d, _, _, _, hI => by
    unfold insInner
    exact ⟨permIn_refl d a (i + 1), hI.stop hO (Or.inl (Nat.zero_le _))⟩
  | j + 1, d, haj, hji, hb, hI => by
    unfold insInner
    split
    · rename_i hc
      simp only [Bool.and_eq_true, decide_eq_true_eq] at hc
      have ih := insInner_stable hO a i j (swp d (j + 1) j) (by omega) (by omega) (by rw [swp_size]; exact hb) (hI.step hc.2 (by omega) (by omega))
      exact ⟨permIn_trans _ _ _ a (i + 1) (swp_permIn d a (i + 1) (j + 1) j haj (by omega) (by omega) (by omega) hb) ih.1, ih.2⟩
    · rename_i hc
      simp only [Bool.and_eq_true, decide_eq_true_eq, not_and, Bool.not_eq_true] at hc
      refine ⟨permIn_refl d a (i + 1), hI.stop hO ?_⟩
      by_cases h : j + 1 > a
      · exact Or.inr (by simpa using hc h)
      · exact Or.inl (by omega)
theorem insOuter_stable (hO : SWO lt) (a b : Nat) : ∀ (n i : Nat) (d : Array α), b - i = n → a < i → i ≤ b → b ≤ d.size → SS lt ix a i d → (∀ p q, a ≤ p → p < q → i ≤ q → q < b → ix d[p]! < ix d[q]!) → PermIn a b d (insOuter lt a b i d) ∧ SS lt ix a b (insOuter lt a b i d)
  | 0, i, d, hn, _, hib, _, hs, _ => by
    obtain rfl : i = b := by omega
    rw [insOuter, if_neg (by omega)]
    exact ⟨permIn_refl d a i, hs⟩
  | n + 1, i, d, hn, hai, hib, hb, hs, hx => by
    have hlt : i < b := by omega
    rw [insOuter, if_pos hlt]
    have h1 := insInner_stable (ix := ix) hO a i i d (by omega) (Nat.le_refl _) (by omega) ⟨fun p q hap hpq hqi hp hq => hs p q hap hpq (by omega), fun q h1 h2 => by omega, fun p hp hp2 => hx p i hp hp2 (Nat.le_refl _) hlt⟩
    have h2 := insOuter_stable hO a b n (i + 1) (insInner lt a i d) (by omega) (by omega) (by omega) (by rw [h1.1.1]; exact hb) h1.2 (fun p q hp hpq hq hq2 => by
      rw [h1.1.2.1 q (Or.inr hq)]
      by_cases hpi : p < i + 1
      · exact permIn_all d (insInner lt a i d) a (i + 1) (fun x => ix x < ix d[q]!) (by omega) h1.1 (fun u hu hu2 => hx u q hu (by omega) (by omega) hq2) p hp hpi
      · rw [h1.1.2.1 p (Or.inr (by omega))]; exact hx p q hp hpq (by omega) hq2)
    exact ⟨permIn_trans _ _ _ a b (permIn_mono d _ a (i + 1) a b (Nat.le_refl _) hlt hb h1.1) h2.1, h2.2⟩
theorem insertionSort_stable (hO : SWO lt) (a b : Nat) (d : Array α) (hab : a ≤ b) (hb : b ≤ d.size) (hx : ∀ p q, a ≤ p → p < q → q < b → ix d[p]! < ix d[q]!) : PermIn a b d (insertionSort lt d a b) ∧ SS lt ix a b (insertionSort lt d a b) := by
  unfold insertionSort
  by_cases h : a = b
  · subst h
    rw [insOuter, if_neg (by omega)]
    exact ⟨permIn_refl d a a, SS.short (by omega)⟩
  · exact insOuter_stable hO a b (b - (a + 1)) (a + 1) d rfl (by omega) (by omega) hb (SS.short (by omega)) (fun p q hp hpq _ hq => hx p q hp hpq hq)

/-- From c on to E: blocks of bs, each in order; what stands in an earlier block came from ahead. -/
def Bl (lt : α → α → Bool) (ix : α → Nat) (c bs E : Nat) (d : Array α) : Prop := ∀ t : Nat, SS lt ix (c + t * bs) (min (c + t * bs + bs) E) d ∧ ∀ p q, c ≤ p → p < c + t * bs → c + t * bs ≤ q → q < E → ix d[p]! < ix d[q]!
theorem Bl.none (bs c : Nat) (d : Array α) : Bl lt ix c bs c d := fun t => ⟨fun i j h1 h2 h3 => by omega, fun p q h1 h2 h3 h4 => by omega⟩
theorem Bl.whole {bs E : Nat} {d : Array α} (h : Bl lt ix 0 bs E d) (hE : E ≤ bs) : SS lt ix 0 E d := by
  have := (h 0).1
  rwa [show 0 + 0 * bs = 0 by omega, show min (0 + bs) E = E by omega] at this
/-- One more block. -/
theorem Bl.ext {bs s a E : Nat} {d e : Array α} (ha : a = s * bs) (h1 : a ≤ E) (h2 : E ≤ a + bs) (hE : E ≤ d.size) (h : Bl lt ix 0 bs a d) (hc : ∀ p q, p < a → a ≤ q → q < E → ix d[p]! < ix d[q]!) (hp : PermIn a E d e) (hs : SS lt ix a E e) : Bl lt ix 0 bs E e := by
  intro t
  rw [Nat.zero_add]
  rcases Nat.lt_trichotomy t s with q | q | q
  · have hle : t * bs + bs ≤ a := by
      have := Nat.mul_le_mul_right bs (show t + 1 ≤ s from q)
      rw [Nat.add_mul, Nat.one_mul] at this
      omega
    have ht := h t
    rw [Nat.zero_add, show min (t * bs + bs) a = t * bs + bs by omega] at ht
    rw [show min (t * bs + bs) E = t * bs + bs by omega]
    refine ⟨ht.1.congr (fun k _ hk => hp.2.1 k (Or.inl (by omega))), fun p r h3 h4 h5 h6 => ?_⟩
    rw [hp.2.1 p (Or.inl (by omega))]
    by_cases hr : r < a
    · rw [hp.2.1 r (Or.inl hr)]; exact ht.2 p r h3 h4 h5 hr
    · exact permIn_all d e a E (fun x => ix d[p]! < ix x) hE hp (fun u hu hu2 => hc p u (by omega) hu hu2) r (by omega) h6
  · rw [q, ← ha, show min (a + bs) E = E by omega]
    refine ⟨hs, fun p r h3 h4 h5 h6 => ?_⟩
    rw [hp.2.1 p (Or.inl h4)]
    exact permIn_all d e a E (fun x => ix d[p]! < ix x) hE hp (fun u hu hu2 => hc p u h4 hu hu2) r h5 h6
  · have hle : a + bs ≤ t * bs := by
      have := Nat.mul_le_mul_right bs (show s + 1 ≤ t from q)
      rw [Nat.add_mul, Nat.one_mul] at this
      omega
    exact ⟨fun i j h3 h4 h5 => by omega, fun p r h3 h4 h5 h6 => by omega⟩
/-- What follows two blocks is as it was. -/
theorem Bl.skip {bs a n : Nat} {d e : Array α} (h : Bl lt ix a bs n d) (he : ∀ k, a + 2 * bs ≤ k → e[k]! = d[k]!) : Bl lt ix (a + 2 * bs) bs n e := by
  intro t
  have e1 : a + 2 * bs + t * bs = a + (t + 2) * bs := by rw [Nat.add_mul]; omega
  have ht := h (t + 2)
  rw [e1]
  refine ⟨ht.1.congr (fun k hk _ => he k (by omega)), fun p q h1 h2 h3 h4 => ?_⟩
  rw [he p h1, he q (by omega)]
  exact ht.2 p q (by omega) h2 h3 h4
/-- The two blocks that are to be merged. -/
theorem Bl.two {bs a b n : Nat} {d : Array α} (h : Bl lt ix a bs n d) (hb : b ≤ n) (hb2 : b ≤ a + 2 * bs) (hb3 : n ≤ b ∨ a + 2 * bs ≤ b) (hm : a + bs ≤ b) : Mg lt ix a (a + bs) b d := by
  have h0 := (h 0).1
  have h1 := (h 1).1
  rw [show a + 0 * bs = a by omega, show min (a + bs) n = a + bs by omega] at h0
  rw [show a + 1 * bs = a + bs by omega, show min (a + bs + bs) n = b by omega] at h1
  exact ⟨h0, h1, fun u v hu hu2 hv hv2 => (h 1).2 u v hu (by omega) (by omega) (by omega)⟩
theorem Bl.one {bs a n : Nat} {d : Array α} (h : Bl lt ix a bs n d) (hn : n ≤ a + bs) : SS lt ix a n d := by
  have h0 := (h 0).1
  rwa [show a + 0 * bs = a by omega, show min (a + bs) n = n by omega] at h0
end Go.Proofs.YtfpfjnmjekjnhaaGreatDoor.Srt
