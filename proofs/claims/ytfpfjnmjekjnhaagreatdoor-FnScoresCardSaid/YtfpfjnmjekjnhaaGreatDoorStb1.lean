/-
  sort.swapRange_func and sort.rotate_func at elements of k cells: walked once, over any program that has the library's bodies.
-/
import Derived.Shelf.GgSortMore.Stable
import Derived.Shelf.GgSortFunc.SmallK
import Derived.Shelf.SlSortFuncK.SWK
import Derived.Test.YtfpfjnmjekjnhaaGreatDoorSrt
set_option linter.unusedVariables false
set_option linter.unusedSimpArgs false
namespace Go.Proofs.YtfpfjnmjekjnhaaGreatDoor.Stb
open Go Go.Proofs Go.Shelf Go.RowKit Go.Lib Go.Sort Go.Proofs.YtfpfjnmjekjnhaaGreatDoor.Srt
variable {P : Program} {ρ : Ren} {α : Type} [Inhabited α]

theorem cell_step (enc : α → List Value) (k : Nat) {W W' : World} {blk off : Nat} {dk : Array α} (h : SWK enc k W blk off dk W') (a : Addr) (h1 : a.block ≠ blk) (h2 : a.block < W.heap.size) : W'.cell? a = W.cell? a := by
  obtain ⟨n, os, rfl⟩ := h
  unfold sortWorldK
  rw [cell?_grow _ _ _ (by rw [size_putRowK]; exact h2), cell?_putRowK_other enc k _ blk off dk a h1]
  rfl
theorem swk_trans {enc : α → List Value} {k : Nat} {w0 W W' : World} {blk off : Nat} {dk dk' : Array α} (h : SWK enc k w0 blk off dk W) (hblk : blk < w0.heap.size) (h2 : SWK enc k W blk off dk' W') (hs : dk'.size = dk.size) : SWK enc k w0 blk off dk' W' := by
  obtain ⟨m, os', rfl⟩ := h2
  exact h.on hblk m dk' os' hs
/-- The two functions that sort hands along, in a block of their own. -/
def Two (B : Nat) (x y : Value) (W : World) : Prop := W.cell? ⟨B, 0, none⟩ = some x ∧ W.cell? ⟨B, 1, none⟩ = some y ∧ B < W.heap.size
theorem Two.step {enc : α → List Value} {k : Nat} {B : Nat} {x y : Value} {W W' : World} {blk off : Nat} {dk : Array α} (h : Two B x y W) (hne : B ≠ blk) (h2 : SWK enc k W blk off dk W') : Two B x y W' :=
  ⟨(cell_step enc k h2 _ hne h.2.2).trans h.1, (cell_step enc k h2 _ hne h.2.2).trans h.2.1, Nat.lt_of_lt_of_le h.2.2 h2.le⟩
theorem Two.drewN {B : Nat} {x y : Value} {W : World} (h : Two B x y W) (q : Nat) : Two B x y (W.drewN q) := h
theorem Two.set {B : Nat} {x y : Value} {W : World} (h : Two B x y W) {blk : Nat} (hne : B ≠ blk) (o : Nat) (vs : List Value) : Two B x y (W.setCells blk o vs) :=
  ⟨by rw [World.cell?_setCells_out blk _ _ _ _ (fun e _ => absurd e hne)]; exact h.1, by rw [World.cell?_setCells_out blk _ _ _ _ (fun e _ => absurd e hne)]; exact h.2.1, by simpa using h.2.2⟩

/-- What is asked of 'less': it hands back 'lt' of the two elements; it may draw and make new blocks; it writes none of what lies. -/
def LessK (P : Program) (g : Nat) (lb : Array Value) (enc : α → List Value) (k : Nat) (lt : α → α → Bool) (blk off size : Nat) (w : World) : Prop :=
  ∀ (W : World) (dk : Array α), SWK enc k w blk off dk W → dk.size = size → ∀ i j : Nat, i < size → j < size →
    Calls P g (#[.int .i64 i, .int .i64 j] ++ lb) W fun e w' => e = .returned (.bool (lt dk[i]! dk[j]!)) ∧ SWK enc k W blk off dk w'
theorem LessK.on {g : Nat} {lb : Array Value} {enc : α → List Value} {k : Nat} {lt : α → α → Bool} {blk off size : Nat} {w W : World} {d0 : Array α} (h : LessK P g lb enc k lt blk off size w) (hblk : blk < w.heap.size) (h0 : SWK enc k w blk off d0 W) (hs : d0.size = size) :
    LessK P g lb enc k lt blk off size W := fun W' dk hW' hs' i j hi hj => h W' dk (swk_trans h0 hblk hW' (hs'.trans hs.symm)) hs' i j hi hj

set_option maxHeartbeats 4000000 in
set_option maxRecDepth 1000000 in
theorem insert_cells (L : LaysGt.n29 P ρ) (enc : α → List Value) (k : Nat) (hk : ∀ x, (enc x).length = k) (lt : α → α → Bool) (g : Nat) (lb : Array Value) (sf : Nat) (sb : Array Value) (blk off a b : Nat) (d : Array α) (w : World)
    (eg : ∀ args w, (callFunc g args).run P w = .ok (.enter g args) w) (hless : LessK P g lb enc k lt blk off d.size w) (hswap : SwapSwapsK P sf sb enc k blk off d.size)
    (hH : HoldsK enc k w blk off d) (hblk : blk < w.heap.size) (hab : a ≤ b) (hb : b ≤ d.size) (hsz : d.size < 4611686018427387904) :
    Calls P (ρ.f 29) #[.agg #[.func (.func g) #[] lb, .func (.func sf) #[] sb], .int .i64 a, .int .i64 b] w fun e w' => e = .returned (.tuple #[]) ∧ SWK enc k w blk off (Sort.insertionSort lt d a b) w' := by
  have mixed := L.mixed; have t0 := L.t0; have a0 := L.a0; have z0 := L.z0; have v0 := L.v0; have t3 := L.t3; have a3 := L.a3; have z3 := L.z3; have v3 := L.v3; have t4 := L.t4; have a4 := L.a4; have z4 := L.z4; have v4 := L.v4; have t26 := L.t26; have a26 := L.a26; have z26 := L.z26; have v26 := L.v26; have t38 := L.t38; have a38 := L.a38; have z38 := L.z38; have v38 := L.v38; have t42 := L.t42; have a42 := L.a42; have z42 := L.z42; have v42 := L.v42
  have u42 := run_underlying L.t42
  have hne : w.heap.size ≠ blk := by omega
  go_enter L.f29, BodyGt.n29_ntmps ρ
  go_wp2
  go_loopg [6] (b + 1 - a) (fun kx s6 wr => ∃ (i : Nat) (dk : Array α), s6 = .int .i64 i ∧ a < i ∧ i ≤ b + 1 ∧ b + 1 - i ≤ kx ∧ dk.size = d.size ∧ Aside (insOuter lt a b i dk = insOuter lt a b (a + 1) d ∧ SWK enc k w blk off dk wr) ∧ Aside (Two w.heap.size (.func (.func g) #[] lb) (.func (.func sf) #[] sb) wr))
  case atStart => exact ⟨a + 1, d, by simp, by omega, by omega, by omega, rfl, ⟨rfl, (SWK.start hH).alloc _⟩, ⟨by simp, by simp, by simp⟩⟩
  case round =>
    obtain ⟨i, dk, rfl, hai, hib, hkx, hsk, S, T⟩ := hrel
    by_cases hlt : i < b
    · have hkx0 := hkx
      clear hkx
      go_wp2
      go_loopg [7] i (fun kx s7 wr2 => ∃ (j : Nat) (dj : Array α), s7 = .int .i64 j ∧ a ≤ j ∧ j ≤ i ∧ j ≤ kx ∧ dj.size = d.size ∧ Aside (insInner lt a j dj = insInner lt a i dk ∧ SWK enc k w blk off dj wr2) ∧ Aside (Two w.heap.size (.func (.func g) #[] lb) (.func (.func sf) #[] sb) wr2))
      case atStart => exact ⟨i, dk, rfl, by omega, Nat.le_refl _, Nat.le_refl _, hsk, ⟨rfl, S.out.2⟩, T.out⟩
      case round =>
        have E : Aside (insOuter lt a b i dk = insOuter lt a b (a + 1) d) := S.out.1
        clear S T
        obtain ⟨j, dj, rfl, haj, hji, hkx, hsj, S, T⟩ := hrel
        have c0 := T.out.1
        have c1 := T.out.2.1
        have out : ∀ W', (j ≤ a ∨ lt dj[j]! dj[j - 1]! = false) → SWK enc k w blk off dj W' → Two w.heap.size (.func (.func g) #[] lb) (.func (.func sf) #[] sb) W' →
            ∃ (i' : Nat) (dk' : Array α), Value.int .i64 ((i : Int) + 1) = .int .i64 i' ∧ a < i' ∧ i' ≤ b + 1 ∧ b + 1 - i' ≤ b + 1 - (i + 1) ∧ dk'.size = d.size ∧ Aside (insOuter lt a b i' dk' = insOuter lt a b (a + 1) d ∧ SWK enc k w blk off dk' W') ∧ Aside (Two w.heap.size (.func (.func g) #[] lb) (.func (.func sf) #[] sb) W') := fun W' hs h1 h2 =>
          ⟨i + 1, dj, by simp, by omega, by omega, Nat.le_refl _, hsj, ⟨by rw [← E.out, insOuter_go _ _ _ _ _ hlt, ← S.out.1, insInner_stop _ _ _ _ hs], h1⟩, h2⟩
        have OUT : Aside _ := out
        clear out
        by_cases hja : a < j
        · have hl := hless wr dj S.out.2 hsj j (j - 1) (by omega) (by omega)
          rw [show (((j - 1 : Nat) : Int)) = (j : Int) - 1 by omega] at hl
          cases hlv : lt dj[j]! dj[j - 1]! with
          | true =>
            rw [hlv] at hl
            clear OUT
            go_wp2_with (go_at_fn g; refine hl.mono ?_; rintro e w' ⟨rfl, W1⟩; have T1 : Aside (Two w.heap.size (.func (.func g) #[] lb) (.func (.func sf) #[] sb) w') := T.out.step hne W1; have c1' := T1.out.2.1; clear c0 c1)
            have X1 : SWK enc k w blk off dj w' := swk_trans S.out.2 hblk W1 rfl
            have hs := hswap w' dj (X1.holds hblk hH hsj) hsj j (j - 1) (by omega) (by omega)
            rw [show (((j - 1 : Nat) : Int)) = (j : Int) - 1 by omega] at hs
            have S2 := X1.swap hk hblk j (j - 1) (by omega) (by omega)
            have T2 := (T1.out.set hne (off + j * k) (enc dj[j - 1]!)).set hne (off + (j - 1) * k) (enc dj[j]!)
            rw [hs, Oper.upon_value]
            generalize (w'.setCells blk (off + j * k) (enc dj[j - 1]!)).setCells blk (off + (j - 1) * k) (enc dj[j]!) = w2 at hs S2 T2
            have S3 : Aside (insInner lt a (j - 1) (swp dj j (j - 1)) = insInner lt a i dk ∧ SWK enc k w blk off (swp dj j (j - 1)) w2) := ⟨by rw [← S.out.1, insInner_go lt a j dj hja hlv], S2⟩
            have T3 : Aside (Two w.heap.size (.func (.func g) #[] lb) (.func (.func sf) #[] sb) w2) := T2
            clear hs S2 T2 X1 S T T1 hless hswap hH
            go_wp2
            go_roundg (j - 1)
            case measure => omega
            case rel => exact ⟨j - 1, swp dj j (j - 1), by congr 1; omega, by omega, by omega, Nat.le_refl _, by rw [size_swp]; exact hsj, S3, T3⟩
          | false =>
            rw [hlv] at hl
            clear hless hswap hH
            go_wp2_with (go_at_fn g; refine hl.mono ?_; rintro e w' ⟨rfl, W1⟩)
            go_roundg (b + 1 - (i + 1))
            case measure => omega
            case rel => exact OUT.out w' (Or.inr hlv) (swk_trans S.out.2 hblk W1 rfl) (T.out.step hne W1)
        · clear hless hswap hH
          go_wp2
          go_roundg (b + 1 - (i + 1))
          case measure => omega
          case rel => exact OUT.out wr (Or.inl (by omega)) S.out.2 T.out
    · go_wp2
      go_end0
      exact ⟨rfl, by unfold Sort.insertionSort; rw [← S.out.1, insOuter_stop _ _ _ _ _ hlt]; exact S.out.2⟩

set_option maxHeartbeats 4000000 in
set_option maxRecDepth 1000000 in
theorem swapRange_cells (L : LaysGt.n49 P ρ) (enc : α → List Value) (k : Nat) (hk : ∀ x, (enc x).length = k) (lf : Fn) (la lb : Array Value) (sf : Nat) (sb : Array Value) (blk off x y n : Nat) (d : Array α) (w : World)
    (hswap : SwapSwapsK P sf sb enc k blk off d.size) (hH : HoldsK enc k w blk off d) (hblk : blk < w.heap.size) (hxy : x + n ≤ y) (hy : y + n ≤ d.size) (hsz : d.size < 4611686018427387904) :
    Calls P (ρ.f 49) #[.agg #[.func lf la lb, .func (.func sf) #[] sb], .int .i64 x, .int .i64 y, .int .i64 n] w fun e w' => e = .returned (.tuple #[]) ∧ ∃ d', SwapR x y n d d' ∧ PermIn x (y + n) d d' ∧ SWK enc k w blk off d' w' := by
  have mixed := L.mixed; have t0 := L.t0; have a0 := L.a0; have z0 := L.z0; have v0 := L.v0; have t3 := L.t3; have a3 := L.a3; have z3 := L.z3; have v3 := L.v3; have t4 := L.t4; have a4 := L.a4; have z4 := L.z4; have v4 := L.v4; have t26 := L.t26; have a26 := L.a26; have z26 := L.z26; have v26 := L.v26; have t38 := L.t38; have a38 := L.a38; have z38 := L.z38; have v38 := L.v38; have t42 := L.t42; have a42 := L.a42; have z42 := L.z42; have v42 := L.v42
  have u42 := run_underlying L.t42
  have hne : w.heap.size ≠ blk := by omega
  go_enter L.f49, BodyGt.n49_ntmps ρ
  go_wp2
  go_loopg [8] n (fun kx s8 wr => ∃ (i : Nat) (dk : Array α), s8 = .int .i64 i ∧ i ≤ n ∧ n - i ≤ kx ∧ dk.size = d.size ∧ Aside (SwapR x y i d dk ∧ PermIn x (y + n) d dk ∧ SWK enc k w blk off dk wr) ∧ Aside (Two w.heap.size (.func lf la lb) (.func (.func sf) #[] sb) wr))
  case atStart => exact ⟨0, d, rfl, Nat.zero_le _, Nat.le_refl _, rfl, ⟨SwapR.zero x y d, permIn_refl d _ _, (SWK.start hH).alloc _⟩, ⟨by simp, by simp, by simp⟩⟩
  case round =>
    obtain ⟨i, dk, rfl, hin, hkx, hds, S, T⟩ := hrel
    by_cases hlt : i < n
    · have c1 := T.out.2.1
      have hs := hswap wr dk (S.out.2.2.holds hblk hH hds) hds (x + i) (y + i) (by omega) (by omega)
      rw [show ((x + i : Nat) : Int) = (x : Int) + (i : Int) by omega, show ((y + i : Nat) : Int) = (y : Int) + (i : Int) by omega] at hs
      have S2 := S.out.2.2.swap hk hblk (x + i) (y + i) (by omega) (by omega)
      have T2 := (T.out.set hne (off + (x + i) * k) (enc dk[y + i]!)).set hne (off + (y + i) * k) (enc dk[x + i]!)
      generalize (wr.setCells blk (off + (x + i) * k) (enc dk[y + i]!)).setCells blk (off + (y + i) * k) (enc dk[x + i]!) = w2 at hs S2 T2
      have S3 : Aside (SwapR x y (i + 1) d (swp dk (x + i) (y + i)) ∧ PermIn x (y + n) d (swp dk (x + i) (y + i)) ∧ SWK enc k w blk off (swp dk (x + i) (y + i)) w2) :=
        ⟨S.out.1.succ (by omega) (by omega), permIn_trans _ _ _ _ _ S.out.2.1 (swp_permIn dk x (y + n) (x + i) (y + i) (by omega) (by omega) (by omega) (by omega) (by omega)), S2⟩
      have T3 : Aside (Two w.heap.size (.func lf la lb) (.func (.func sf) #[] sb) w2) := T2
      clear S S2 T T2 hH hswap
      go_wp2
      go_roundg (n - (i + 1))
      case measure => omega
      case rel => exact ⟨i + 1, swp dk (x + i) (y + i), by simp, by omega, Nat.le_refl _, by rw [size_swp]; exact hds, S3, T3⟩
    · go_wp2
      go_end0
      have e : i = n := by omega
      subst e
      exact ⟨rfl, dk, S.out.1, S.out.2.1, S.out.2.2⟩

set_option maxHeartbeats 4000000 in
set_option maxRecDepth 1000000 in
theorem rotate_cells (L : LaysGt.n42 P ρ) (enc : α → List Value) (k : Nat) (hk : ∀ x, (enc x).length = k) (lf : Fn) (la lb : Array Value) (sf : Nat) (sb : Array Value) (blk off a m b : Nat) (d : Array α) (w : World)
    (hswap : SwapSwapsK P sf sb enc k blk off d.size) (hH : HoldsK enc k w blk off d) (hblk : blk < w.heap.size) (ham : a < m) (hmb : m < b) (hb : b ≤ d.size) (hsz : d.size < 4611686018427387904) :
    Calls P (ρ.f 42) #[.agg #[.func lf la lb, .func (.func sf) #[] sb], .int .i64 a, .int .i64 m, .int .i64 b] w fun e w' => e = .returned (.tuple #[]) ∧ ∃ d', Rot a m b d d' ∧ SWK enc k w blk off d' w' := by
  have mixed := L.mixed; have t0 := L.t0; have a0 := L.a0; have z0 := L.z0; have v0 := L.v0; have t3 := L.t3; have a3 := L.a3; have z3 := L.z3; have v3 := L.v3; have t4 := L.t4; have a4 := L.a4; have z4 := L.z4; have v4 := L.v4; have t26 := L.t26; have a26 := L.a26; have z26 := L.z26; have v26 := L.v26; have t38 := L.t38; have a38 := L.a38; have z38 := L.z38; have v38 := L.v38; have t42 := L.t42; have a42 := L.a42; have z42 := L.z42; have v42 := L.v42
  have u42 := run_underlying L.t42
  have e49 : ∀ args w, (callFunc (ρ.f 49) args).run P w = .ok (.enter (ρ.f 49) args) w := enters_of L.f49 (by kernel_rfl) rfl
  have hne : w.heap.size ≠ blk := by omega
  have SR : ∀ {D : Array α}, D.size = d.size → SwapSwapsK P sf sb enc k blk off D.size := fun {D} hs => by rw [hs]; exact hswap
  go_enter L.f42, BodyGt.n42_ntmps ρ
  go_wp2
  go_loopg [8, 9] (b - a) (fun kx s8 s9 wr => ∃ (i j : Nat) (dk : Array α), s8 = .int .i64 i ∧ s9 = .int .i64 j ∧ 0 < i ∧ 0 < j ∧ i ≤ m - a ∧ j ≤ b - m ∧ i + j ≤ kx ∧ dk.size = d.size ∧ Aside ((∀ t, rv dk (m - i) m (m + j) t = rv d a m b t) ∧ PermIn a b d dk ∧ SWK enc k w blk off dk wr) ∧ Aside (Two w.heap.size (.func lf la lb) (.func (.func sf) #[] sb) wr))
  case atStart => exact ⟨m - a, b - m, d, by congr 1; omega, by congr 1; omega, by omega, by omega, Nat.le_refl _, Nat.le_refl _, by omega, rfl, ⟨fun t => by rw [show m - (m - a) = a by omega, show m + (b - m) = b by omega], permIn_refl d _ _, (SWK.start hH).alloc _⟩, ⟨by simp, by simp, by simp⟩⟩
  case round =>
    obtain ⟨i, j, dk, rfl, rfl, hi0, hj0, hi, hj, hkx, hds, S, T⟩ := hrel
    have c0 := T.out.1
    have c1 := T.out.2.1
    have HH := S.out.2.2.holds hblk hH hds
    have hbr := S.out.2.2.lt hblk
    have em : ((m - i : Nat) : Int) = (m : Int) - (i : Int) := by omega
    by_cases hij : i = j
    · subst hij
      have hc := swapRange_cells (P := P) (ρ := ρ) { L with } enc k hk lf la lb sf sb blk off (m - i) m i dk wr (SR hds) HH hbr (by omega) (by omega) (by omega)
      rw [em] at hc
      clear HH hbr hH hswap SR
      go_wp2_with (go_at_fn (ρ.f 49); refine hc.mono ?_; rintro e w1 ⟨rfl, d1, R1, P1, W1⟩)
      go_end0
      exact ⟨rfl, d1, ⟨by rw [R1.size, hds], fun t => by rw [rot_same (by omega) R1 t, S.out.1 t], permIn_trans _ _ _ _ _ S.out.2.1 (permIn_mono dk d1 (m - i) (m + i) a b (by omega) (by omega) (by omega) P1)⟩, swk_trans S.out.2.2 hblk W1 (by rw [R1.size])⟩
    · have hijz : ¬ ((i : Int) = (j : Int)) := by omega
      by_cases hgt : j < i
      · have hgz : (j : Int) < (i : Int) := by omega
        have hc := swapRange_cells (P := P) (ρ := ρ) { L with } enc k hk lf la lb sf sb blk off (m - i) m j dk wr (SR hds) HH hbr (by omega) (by omega) (by omega)
        rw [em] at hc
        clear HH hbr hH hswap SR
        go_wp2_with (go_at_fn (ρ.f 49); refine hc.mono ?_; rintro e w1 ⟨rfl, d1, R1, P1, W1⟩)
        go_roundg (i - j + j)
        case measure => omega
        case rel => exact ⟨i - j, j, d1, by congr 1; omega, rfl, by omega, hj0, by omega, hj, Nat.le_refl _, by rw [R1.size, hds], ⟨fun t => by rw [rot_left hgt hj0 (by omega) R1 t, S.out.1 t], permIn_trans _ _ _ _ _ S.out.2.1 (permIn_mono dk d1 (m - i) (m + j) a b (by omega) (by omega) (by omega) P1), swk_trans S.out.2.2 hblk W1 (by rw [R1.size])⟩, T.out.step hne W1⟩
      · have hgz : ¬ ((j : Int) < (i : Int)) := by omega
        have hc := swapRange_cells (P := P) (ρ := ρ) { L with } enc k hk lf la lb sf sb blk off (m - i) (m + j - i) i dk wr (SR hds) HH hbr (by omega) (by omega) (by omega)
        rw [em, show ((m + j - i : Nat) : Int) = (m : Int) + (j : Int) - (i : Int) by omega] at hc
        clear HH hbr hH hswap SR
        go_wp2_with (go_at_fn (ρ.f 49); refine hc.mono ?_; rintro e w1 ⟨rfl, d1, R1, P1, W1⟩)
        go_roundg (i + (j - i))
        case measure => omega
        case rel => exact ⟨i, j - i, d1, rfl, by congr 1; omega, hi0, by omega, hi, by omega, Nat.le_refl _, by rw [R1.size, hds], ⟨fun t => by rw [rot_right (by omega) hi0 (by omega) R1 t, S.out.1 t], permIn_trans _ _ _ _ _ S.out.2.1 (permIn_mono dk d1 (m - i) (m + j - i + i) a b (by omega) (by omega) (by omega) P1), swk_trans S.out.2.2 hblk W1 (by rw [R1.size])⟩, T.out.step hne W1⟩
end Go.Proofs.YtfpfjnmjekjnhaaGreatDoor.Stb
