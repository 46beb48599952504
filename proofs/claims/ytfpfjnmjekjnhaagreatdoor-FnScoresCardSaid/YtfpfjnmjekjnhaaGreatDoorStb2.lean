/-
  sort.symMerge_func at elements of k cells: two neighbours in order become one row in order, the stable one.
-/
import Derived.Test.YtfpfjnmjekjnhaaGreatDoorStb1
import Derived.Deep.Cut
set_option linter.unusedVariables false
set_option linter.unusedSimpArgs false
namespace Go.Proofs.YtfpfjnmjekjnhaaGreatDoor.Stb
open Go Go.Proofs Go.Shelf Go.RowKit Go.Lib Go.Sort Go.Proofs.YtfpfjnmjekjnhaaGreatDoor.Srt
variable {P : Program} {ρ : Ren} {α : Type} [Inhabited α]

set_option maxHeartbeats 12000000 in
set_option maxRecDepth 1000000 in
theorem symMerge_cells (L : LaysGt.n30 P ρ) (enc : α → List Value) (k : Nat) (hk : ∀ x, (enc x).length = k) (lt : α → α → Bool) (ix : α → Nat) (hO : SWO lt) (g : Nat) (lb : Array Value) (sf : Nat) (sb : Array Value) (eg : ∀ args w, (callFunc g args).run P w = .ok (.enter g args) w) (blk off : Nat) :
    ∀ (N a m b : Nat) (d : Array α) (w : World), b - a < N → LessK P g lb enc k lt blk off d.size w → SwapSwapsK P sf sb enc k blk off d.size → HoldsK enc k w blk off d → blk < w.heap.size → a < m → m < b → b ≤ d.size → d.size < 4611686018427387904 → Mg lt ix a m b d →
    Calls P (ρ.f 30) #[.agg #[.func (.func g) #[] lb, .func (.func sf) #[] sb], .int .i64 a, .int .i64 m, .int .i64 b] w fun e w' => e = .returned (.tuple #[]) ∧ ∃ d', PermIn a b d d' ∧ SS lt ix a b d' ∧ SWK enc k w blk off d' w' := by
  have mixed := L.mixed; have t0 := L.t0; have a0 := L.a0; have z0 := L.z0; have v0 := L.v0; have t3 := L.t3; have a3 := L.a3; have z3 := L.z3; have v3 := L.v3; have t4 := L.t4; have a4 := L.a4; have z4 := L.z4; have v4 := L.v4; have t26 := L.t26; have a26 := L.a26; have z26 := L.z26; have v26 := L.v26; have t38 := L.t38; have a38 := L.a38; have z38 := L.z38; have v38 := L.v38; have t42 := L.t42; have a42 := L.a42; have z42 := L.z42; have v42 := L.v42; have t47 := L.t47; have a47 := L.a47; have z47 := L.z47; have v47 := L.v47
  have u42 := run_underlying L.t42
  have e30 : ∀ args w, (callFunc (ρ.f 30) args).run P w = .ok (.enter (ρ.f 30) args) w := enters_of L.f30 (by kernel_rfl) rfl
  have e42 : ∀ args w, (callFunc (ρ.f 42) args).run P w = .ok (.enter (ρ.f 42) args) w := enters_of L.f42 (by kernel_rfl) rfl
  intro N
  induction N with
  | zero => intro _ _ _ _ _ h; exact absurd h (Nat.not_lt_zero _)
  | succ N ih =>
    intro a m b d w hN hL hS hH hblk ham hmb hb hsz hM
    have hne : w.heap.size ≠ blk := by omega
    have LR : ∀ {D : Array α} {X : World}, SWK enc k w blk off D X → D.size = d.size → LessK P g lb enc k lt blk off D.size X := fun {D X} hA hs => by rw [hs]; exact hL.on hblk hA hs
    have SR : ∀ {D : Array α}, D.size = d.size → SwapSwapsK P sf sb enc k blk off D.size := fun {D} hs => by rw [hs]; exact hS
    have MM : Aside (Mg lt ix a m b d) := hM
    clear hM
    by_cases h1 : m = a + 1
    · have h1z : (m : Int) - (a : Int) = 1 := by omega
      clear ih
      have hma : a + 1 ≤ m ∧ m ≤ a + 1 := by omega
      have E1 : Aside (m = a + 1) := h1
      go_enter L.f30, BodyGt.n30_ntmps ρ
      go_upto_region 2 with fail
      clear h1 h1z
      go_cut [8] from 23 (fun s8 wc => s8 = .int .i64 m ∧ Aside (SWK enc k w blk off d wc) ∧ Aside (Two w.heap.size (.func (.func g) #[] lb) (.func (.func sf) #[] sb) wc))
      case first =>
        have X1 : Aside (SWK enc k w blk off d (w.alloc (.cells #[.func (.func g) #[] lb, .func (.func sf) #[] sb] (ρ.t 42)))) := (SWK.start hH).alloc _
        clear hH hL hS LR SR
        go_wp2_with fail
        go_meet
        case rel => exact ⟨rfl, X1.out, ⟨by simp, by simp, by simp⟩⟩
      obtain ⟨rfl, S0, T0⟩ := hcut
      go_wp2
      go_loopg [8, 9] (b - m) (fun kx s8 s9 wr => ∃ lo hi : Nat, s8 = .int .i64 lo ∧ s9 = .int .i64 hi ∧ m ≤ lo ∧ lo ≤ hi ∧ hi ≤ b ∧ hi - lo ≤ kx ∧ Aside ((lo = m ∨ lt d[lo - 1]! d[a]! = true) ∧ (hi = b ∨ lt d[hi]! d[a]! = false)) ∧ Aside (SWK enc k w blk off d wr) ∧ Aside (Two w.heap.size (.func (.func g) #[] lb) (.func (.func sf) #[] sb) wr))
      case atStart => exact ⟨m, b, rfl, rfl, Nat.le_refl _, by omega, Nat.le_refl _, Nat.le_refl _, ⟨Or.inl rfl, Or.inl rfl⟩, S0.out, T0.out⟩
      case round =>
        clear S0 T0
        obtain ⟨lo, hi, rfl, rfl, hml, hlh, hhb, hkx, I, S, T⟩ := hrel
        by_cases hlt : lo < hi
        · have c0 := T.out.1
          have hl := hL wr d S.out rfl ((lo + hi) / 2) a (by omega) (by omega)
          rw [show (((lo + hi) / 2 : Nat) : Int) = ((lo : Int) + (hi : Int)) / 2 by omega] at hl
          clear hL hS hH LR SR
          cases hc : lt d[(lo + hi) / 2]! d[a]! with
          | true =>
            rw [hc] at hl
            go_wp2_with (go_at_fn g; refine hl.mono ?_; rintro e w' ⟨rfl, W1⟩)
            go_roundg (hi - ((lo + hi) / 2 + 1))
            case measure => omega
            case rel => exact ⟨(lo + hi) / 2 + 1, hi, by rw [show ((lo : Int) + (hi : Int)) / 2 + 1 = (((lo + hi) / 2 + 1 : Nat) : Int) by omega], rfl, by omega, by omega, hhb, Nat.le_refl _, ⟨Or.inr hc, I.out.2⟩, swk_trans S.out hblk W1 rfl, T.out.step hne W1⟩
          | false =>
            rw [hc] at hl
            go_wp2_with (go_at_fn g; refine hl.mono ?_; rintro e w' ⟨rfl, W1⟩)
            go_roundg ((lo + hi) / 2 - lo)
            case measure => omega
            case rel => exact ⟨lo, (lo + hi) / 2, rfl, by rw [show ((lo : Int) + (hi : Int)) / 2 = (((lo + hi) / 2 : Nat) : Int) by omega], hml, by omega, by omega, Nat.le_refl _, ⟨I.out.1, Or.inr hc⟩, swk_trans S.out hblk W1 rfl, T.out.step hne W1⟩
        · have e : hi = lo := by omega
          subst e
          go_wp2
          go_loopg [11] (hi - a) (fun kx s11 wr2 => ∃ (t : Nat) (dk : Array α), s11 = .int .i64 t ∧ a ≤ t ∧ t + 1 ≤ hi ∧ hi - t ≤ kx ∧ dk.size = d.size ∧ Aside (Up a t d dk ∧ PermIn a hi d dk ∧ SWK enc k w blk off dk wr2) ∧ Aside (Two w.heap.size (.func (.func g) #[] lb) (.func (.func sf) #[] sb) wr2))
          case atStart => exact ⟨a, d, rfl, Nat.le_refl _, by omega, Nat.le_refl _, rfl, ⟨Up.zero a d, permIn_refl d _ _, S.out⟩, T.out⟩
          case round =>
            clear S T
            obtain ⟨t, dk, rfl, hat, hti, hkx, hds, S, T⟩ := hrel
            by_cases hg : t + 1 < hi
            · have hgz : (t : Int) < (hi : Int) - 1 := by omega
              have c1 := T.out.2.1
              have hs := hS wr dk (S.out.2.2.holds hblk hH hds) hds t (t + 1) (by omega) (by omega)
              rw [show ((t + 1 : Nat) : Int) = (t : Int) + 1 by omega] at hs
              have S2 := S.out.2.2.swap hk hblk t (t + 1) (by omega) (by omega)
              have T2 := (T.out.set hne (off + t * k) (enc dk[t + 1]!)).set hne (off + (t + 1) * k) (enc dk[t]!)
              generalize (wr.setCells blk (off + t * k) (enc dk[t + 1]!)).setCells blk (off + (t + 1) * k) (enc dk[t]!) = w2 at hs S2 T2
              have S3 : Aside (Up a (t + 1) d (swp dk t (t + 1)) ∧ PermIn a hi d (swp dk t (t + 1)) ∧ SWK enc k w blk off (swp dk t (t + 1)) w2) :=
                ⟨S.out.1.succ hat (by omega), permIn_trans _ _ _ _ _ S.out.2.1 (swp_permIn dk a hi t (t + 1) (by omega) (by omega) (by omega) (by omega) (by omega)), S2⟩
              have T3 : Aside (Two w.heap.size (.func (.func g) #[] lb) (.func (.func sf) #[] sb) w2) := T2
              clear S S2 T T2 hH hL hS LR SR
              go_wp2
              go_roundg (hi - (t + 1))
              case measure => omega
              case rel => exact ⟨t + 1, swp dk t (t + 1), by simp, by omega, by omega, Nat.le_refl _, by rw [size_swp]; exact hds, S3, T3⟩
            · have hgz : ¬ ((t : Int) < (hi : Int) - 1) := by omega
              have ET : Aside (t = hi - 1) := by show t = hi - 1; omega
              go_wp2
              (try simp only [Exit.inBlock, Exit.then]); refine bodyPost_ret (results_none rfl _ _ _) rfl ?_
              have ETo := ET.out
              subst ETo
              have R := S.out.1.rot (by omega) S.out.2.1
              have E1o := E1.out
              subst E1o
              obtain ⟨m1, m2, m3⟩ := MM.out.mid hO (start := a) (fin := hi) (Nat.le_refl _) (by omega) hml hhb R (Or.inl rfl) (by
                rcases I.out.1 with e | e
                · exact Or.inr (Or.inl e)
                · exact Or.inr (Or.inr e))
              have s1 : SS lt ix a (a + (hi - (a + 1))) dk := m1.r
              have s2 : SS lt ix (a + (hi - (a + 1))) b dk := m2.done hO (by omega) hhb (by
                rcases I.out.2 with e | e
                · exact Or.inr (Or.inl e)
                · refine Or.inr (Or.inr ?_)
                  rw [S.out.1.out hi (Or.inr (by omega)), S.out.1.me]; exact e)
              have J := join_halves (by rw [hds]; exact hb) (by omega) (by omega) m3 (permIn_refl dk a _) s1 (permIn_refl dk _ b) s2
              exact ⟨rfl, dk, permIn_mono d dk a hi a b (Nat.le_refl _) hhb hb S.out.2.1, J.2, S.out.2.2⟩
    · have h1z : ¬ ((m : Int) - (a : Int) = 1) := by omega
      by_cases h2 : b = m + 1
      · have h2z : (b : Int) - (m : Int) = 1 := by omega
        clear ih
        have hmb2 : b ≤ m + 1 := by omega
        have E2 : Aside (b = m + 1) := h2
        go_enter L.f30, BodyGt.n30_ntmps ρ
        go_upto_region 14 with fail
        clear h2 h1 h1z h2z
        go_cut [12] from 23 (fun s12 wc => s12 = .int .i64 a ∧ Aside (SWK enc k w blk off d wc) ∧ Aside (Two w.heap.size (.func (.func g) #[] lb) (.func (.func sf) #[] sb) wc))
        case first =>
          have X1 : Aside (SWK enc k w blk off d (w.alloc (.cells #[.func (.func g) #[] lb, .func (.func sf) #[] sb] (ρ.t 42)))) := (SWK.start hH).alloc _
          clear hH hL hS LR SR
          go_wp2_with fail
          go_meet
          case rel => exact ⟨rfl, X1.out, ⟨by simp, by simp, by simp⟩⟩
        obtain ⟨rfl, S0, T0⟩ := hcut
        go_wp2
        go_loopg [12, 13] (m - a) (fun kx s12 s13 wr => ∃ lo hi : Nat, s12 = .int .i64 lo ∧ s13 = .int .i64 hi ∧ a ≤ lo ∧ lo ≤ hi ∧ hi ≤ m ∧ hi - lo ≤ kx ∧ Aside ((lo = a ∨ lt d[m]! d[lo - 1]! = false) ∧ (hi = m ∨ lt d[m]! d[hi]! = true)) ∧ Aside (SWK enc k w blk off d wr) ∧ Aside (Two w.heap.size (.func (.func g) #[] lb) (.func (.func sf) #[] sb) wr))
        case atStart => exact ⟨a, m, rfl, rfl, Nat.le_refl _, by omega, Nat.le_refl _, Nat.le_refl _, ⟨Or.inl rfl, Or.inl rfl⟩, S0.out, T0.out⟩
        case round =>
          clear S0 T0
          obtain ⟨lo, hi, rfl, rfl, hml, hlh, hhb, hkx, I, S, T⟩ := hrel
          by_cases hlt : lo < hi
          · have c0 := T.out.1
            have hl := hL wr d S.out rfl m ((lo + hi) / 2) (by omega) (by omega)
            rw [show (((lo + hi) / 2 : Nat) : Int) = ((lo : Int) + (hi : Int)) / 2 by omega] at hl
            clear hL hS hH LR SR
            cases hc : lt d[m]! d[(lo + hi) / 2]! with
            | false =>
              rw [hc] at hl
              go_wp2_with (go_at_fn g; refine hl.mono ?_; rintro e w' ⟨rfl, W1⟩)
              go_roundg (hi - ((lo + hi) / 2 + 1))
              case measure => omega
              case rel => exact ⟨(lo + hi) / 2 + 1, hi, by rw [show ((lo : Int) + (hi : Int)) / 2 + 1 = (((lo + hi) / 2 + 1 : Nat) : Int) by omega], rfl, by omega, by omega, hhb, Nat.le_refl _, ⟨Or.inr hc, I.out.2⟩, swk_trans S.out hblk W1 rfl, T.out.step hne W1⟩
            | true =>
              rw [hc] at hl
              go_wp2_with (go_at_fn g; refine hl.mono ?_; rintro e w' ⟨rfl, W1⟩)
              go_roundg ((lo + hi) / 2 - lo)
              case measure => omega
              case rel => exact ⟨lo, (lo + hi) / 2, rfl, by rw [show ((lo : Int) + (hi : Int)) / 2 = (((lo + hi) / 2 : Nat) : Int) by omega], hml, by omega, by omega, Nat.le_refl _, ⟨I.out.1, Or.inr hc⟩, swk_trans S.out hblk W1 rfl, T.out.step hne W1⟩
          · have e : hi = lo := by omega
            subst e
            go_wp2
            go_loopg [15] (m - hi) (fun kx s15 wr2 => ∃ (t : Nat) (dk : Array α), s15 = .int .i64 t ∧ hi ≤ t ∧ t ≤ m ∧ t - hi ≤ kx ∧ dk.size = d.size ∧ Aside (Dn m t d dk ∧ PermIn hi (m + 1) d dk ∧ SWK enc k w blk off dk wr2) ∧ Aside (Two w.heap.size (.func (.func g) #[] lb) (.func (.func sf) #[] sb) wr2))
            case atStart => exact ⟨m, d, rfl, hhb, Nat.le_refl _, Nat.le_refl _, rfl, ⟨Dn.zero m d, permIn_refl d _ _, S.out⟩, T.out⟩
            case round =>
              clear S T
              obtain ⟨t, dk, rfl, hat, hti, hkx, hds, S, T⟩ := hrel
              by_cases hg : hi < t
              · obtain ⟨t, rfl⟩ : ∃ u, t = u + 1 := ⟨t - 1, by omega⟩
                have c1 := T.out.2.1
                have hs := hS wr dk (S.out.2.2.holds hblk hH hds) hds (t + 1) t (by omega) (by omega)
                rw [show ((t + 1 : Nat) : Int) = (t : Int) + 1 by omega] at hs
                have S2 := S.out.2.2.swap hk hblk (t + 1) t (by omega) (by omega)
                have T2 := (T.out.set hne (off + (t + 1) * k) (enc dk[t]!)).set hne (off + t * k) (enc dk[t + 1]!)
                generalize (wr.setCells blk (off + (t + 1) * k) (enc dk[t]!)).setCells blk (off + t * k) (enc dk[t + 1]!) = w2 at hs S2 T2
                have S3 : Aside (Dn m t d (swp dk (t + 1) t) ∧ PermIn hi (m + 1) d (swp dk (t + 1) t) ∧ SWK enc k w blk off (swp dk (t + 1) t) w2) :=
                  ⟨S.out.1.succ hti (by omega), permIn_trans _ _ _ _ _ S.out.2.1 (swp_permIn dk hi (m + 1) (t + 1) t (by omega) (by omega) (by omega) (by omega) (by omega)), S2⟩
                have T3 : Aside (Two w.heap.size (.func (.func g) #[] lb) (.func (.func sf) #[] sb) w2) := T2
                have hgz : (hi : Int) < (t : Int) + 1 := by omega
                clear S S2 T T2 hH hL hS LR SR
                go_wp2
                go_roundg (t - hi)
                case measure => omega
                case rel => exact ⟨t, swp dk (t + 1) t, by simp, by omega, by omega, Nat.le_refl _, by rw [size_swp]; exact hds, S3, T3⟩
              · have ET : Aside (t = hi) := by show t = hi; omega
                go_wp2
                (try simp only [Exit.inBlock, Exit.then]); refine bodyPost_ret (results_none rfl _ _ _) rfl ?_
                have ETo := ET.out
                subst ETo
                have R := S.out.1.rot hhb S.out.2.1
                have E2o := E2.out
                subst E2o
                obtain ⟨m1, m2, m3⟩ := MM.out.mid hO (start := t) (fin := m + 1) hml hhb (by omega) (Nat.le_refl _) R (Or.inr (Or.inl rfl)) (by
                  rcases I.out.2 with e | e
                  · exact Or.inl e
                  · exact Or.inr (Or.inr (by simpa using e)))
                have s1 : SS lt ix a (t + (m + 1 - m)) dk := m1.done hO hml (by omega) (by
                  rcases I.out.1 with e | e
                  · exact Or.inl e
                  · by_cases ea : t = a
                    · exact Or.inl ea
                    · refine Or.inr (Or.inr ?_)
                      rw [S.out.1.out (t - 1) (Or.inl (by omega)), S.out.1.me]; exact e)
                have s2 : SS lt ix (t + (m + 1 - m)) (m + 1) dk := m2.l
                have J := join_halves (by rw [hds]; exact hb) (by omega) (by omega) m3 (permIn_refl dk a _) s1 (permIn_refl dk _ (m + 1)) s2
                exact ⟨rfl, dk, permIn_mono d dk t (m + 1) a (m + 1) hml (Nat.le_refl _) hb S.out.2.1, J.2, S.out.2.2⟩
      · have h2z : ¬ ((b : Int) - (m : Int) = 1) := by omega
        obtain ⟨mid, hmid⟩ : ∃ x, 2 * x ≤ a + b ∧ a + b < 2 * x + 2 := ⟨(a + b) / 2, by omega⟩
        obtain ⟨nn, hnn⟩ : ∃ x, x ≤ mid + m ∧ mid + m ≤ x := ⟨mid + m, by omega⟩
        obtain ⟨st, r0, hst⟩ : ∃ st r0 : Nat, (mid < m ∧ st = nn - b ∧ r0 = mid) ∨ (¬ mid < m ∧ st = a ∧ r0 = m) := by
          by_cases q : mid < m
          · exact ⟨nn - b, mid, Or.inl ⟨q, rfl, rfl⟩⟩
          · exact ⟨a, m, Or.inr ⟨q, rfl, rfl⟩⟩
        have emid : ((a : Int) + (b : Int)) / 2 = (mid : Int) := by omega
        go_enter L.f30, BodyGt.n30_ntmps ρ
        go_upto_if 106 with fail
        go_cut [16, 17, 18, 19] from 23 (fun s16 s17 s18 s19 wc => s16 = .int .i64 mid ∧ s17 = .int .i64 nn ∧ s18 = .int .i64 st ∧ s19 = .int .i64 r0 ∧ Aside (SWK enc k w blk off d wc) ∧ Aside (Two w.heap.size (.func (.func g) #[] lb) (.func (.func sf) #[] sb) wc))
        case first =>
          clear emid h1 h1z h2 h2z
          have X1 : Aside (SWK enc k w blk off d (w.alloc (.cells #[.func (.func g) #[] lb, .func (.func sf) #[] sb] (ρ.t 42)))) := (SWK.start hH).alloc _
          clear hH hL hS LR SR ih
          by_cases q : mid < m
          · have qz : (mid : Int) < (m : Int) := by omega
            have est : (mid : Int) + (m : Int) - (b : Int) = (st : Int) := by omega
            have er : r0 = mid := by omega
            have enn : (mid : Int) + (m : Int) = (nn : Int) := by omega
            go_wp2_with fail
            go_meet
            case rel => exact ⟨by first | rfl | (congr 1 <;> omega), by first | rfl | (congr 1 <;> omega), by first | rfl | (congr 1 <;> omega), by first | rfl | (congr 1 <;> omega), X1.out, ⟨by simp, by simp, by simp⟩⟩
          · have qz : ¬ ((mid : Int) < (m : Int)) := by omega
            go_wp2_with fail
            go_meet
            case rel => exact ⟨by first | rfl | (congr 1 <;> omega), by first | rfl | (congr 1 <;> omega), by first | rfl | (congr 1 <;> omega), by first | rfl | (congr 1 <;> omega), X1.out, ⟨by simp, by simp, by simp⟩⟩
        case rest =>
          clear emid h1z h2z
          obtain ⟨rfl, rfl, rfl, rfl, S0, T0⟩ := hcut
          go_wp2
          go_loopg [18, 19] (r0 - st) (fun kx s18 s19 wr => ∃ s r : Nat, s18 = .int .i64 s ∧ s19 = .int .i64 r ∧ st ≤ s ∧ s ≤ r ∧ r ≤ r0 ∧ r - s ≤ kx ∧ Aside ((s = st ∨ lt d[nn - s]! d[s - 1]! = false) ∧ (r = r0 ∨ lt d[nn - 1 - r]! d[r]! = true)) ∧ Aside (SWK enc k w blk off d wr) ∧ Aside (Two w.heap.size (.func (.func g) #[] lb) (.func (.func sf) #[] sb) wr))
          case atStart => exact ⟨st, r0, rfl, rfl, Nat.le_refl _, by omega, Nat.le_refl _, Nat.le_refl _, ⟨Or.inl rfl, Or.inl rfl⟩, S0.out, T0.out⟩
          case round =>
            clear S0 T0
            obtain ⟨s, r, rfl, rfl, hss, hsr, hrr, hkx, I, S, T⟩ := hrel
            by_cases hlt : s < r
            · have c0 := T.out.1
              have hl := hL wr d S.out rfl (nn - 1 - (s + r) / 2) ((s + r) / 2) (by omega) (by omega)
              rw [show ((nn - 1 - (s + r) / 2 : Nat) : Int) = (nn : Int) - 1 - ((s : Int) + (r : Int)) / 2 by omega, show (((s + r) / 2 : Nat) : Int) = ((s : Int) + (r : Int)) / 2 by omega] at hl
              clear hL hS hH LR SR ih
              cases hc : lt d[nn - 1 - (s + r) / 2]! d[(s + r) / 2]! with
              | false =>
                rw [hc] at hl
                go_wp2_with (go_at_fn g; refine hl.mono ?_; rintro e w' ⟨rfl, W1⟩)
                go_roundg (r - ((s + r) / 2 + 1))
                case measure => omega
                case rel => exact ⟨(s + r) / 2 + 1, r, by rw [show ((s : Int) + (r : Int)) / 2 + 1 = (((s + r) / 2 + 1 : Nat) : Int) by omega], rfl, by omega, by omega, hrr, Nat.le_refl _, ⟨Or.inr (by rw [show nn - ((s + r) / 2 + 1) = nn - 1 - (s + r) / 2 by omega]; exact hc), I.out.2⟩, swk_trans S.out hblk W1 rfl, T.out.step hne W1⟩
              | true =>
                rw [hc] at hl
                go_wp2_with (go_at_fn g; refine hl.mono ?_; rintro e w' ⟨rfl, W1⟩)
                go_roundg ((s + r) / 2 - s)
                case measure => omega
                case rel => exact ⟨s, (s + r) / 2, rfl, by rw [show ((s : Int) + (r : Int)) / 2 = (((s + r) / 2 : Nat) : Int) by omega], hss, by omega, by omega, Nat.le_refl _, ⟨I.out.1, Or.inr hc⟩, swk_trans S.out hblk W1 rfl, T.out.step hne W1⟩
            · have e : r = s := by omega
              subst e
              obtain ⟨fin, hfin⟩ : ∃ x, x + r ≤ nn ∧ nn ≤ x + r := ⟨nn - r, by omega⟩
              have efin : (nn : Int) - (r : Int) = (fin : Int) := by omega
              have ra : a ≤ r := by omega
              have rm : r ≤ m := by omega
              have mf : m ≤ fin := by omega
              have fb : fin ≤ b := by omega
              have emd : Aside (r + (fin - m) = mid) := by show r + (fin - m) = mid; omega
              have C1 : Aside (r = a ∨ fin = b ∨ lt d[fin]! d[r - 1]! = false) := by
                rcases I.out.1 with e | e
                · rcases hst with ⟨_, e2, _⟩ | ⟨_, e2, _⟩
                  · exact Or.inr (Or.inl (by omega))
                  · exact Or.inl (by omega)
                · exact Or.inr (Or.inr (by rw [show fin = nn - r by omega]; exact e))
              have C2 : Aside (r = m ∨ fin = m ∨ lt d[fin - 1]! d[r]! = true) := by
                rcases I.out.2 with e | e
                · rcases hst with ⟨_, _, e2⟩ | ⟨_, _, e2⟩
                  · exact Or.inr (Or.inl (by omega))
                  · exact Or.inl (by omega)
                · exact Or.inr (Or.inr (by rw [show fin - 1 = nn - 1 - r by omega]; exact e))
              clear I hkx
              go_upto_region 40 with fail
              go_cut [22, 145] from 23 (fun s22 s145 wc => s22 = .int .i64 fin ∧ s145 = .bool (decide (r < m ∧ m < fin)) ∧ Aside (SWK enc k w blk off d wc) ∧ Aside (Two w.heap.size (.func (.func g) #[] lb) (.func (.func sf) #[] sb) wc))
              case first =>
                clear hH hL hS LR SR ih
                by_cases q1 : r < m
                · by_cases q2 : m < fin
                  · go_wp2_with fail
                    go_meet
                    case rel => exact ⟨by first | rfl | (congr 1 <;> omega), by simp [q1, q2], S.out, T.out⟩
                  · go_wp2_with fail
                    go_meet
                    case rel => exact ⟨by first | rfl | (congr 1 <;> omega), by simp [q1, q2], S.out, T.out⟩
                · go_wp2_with fail
                  go_meet
                  case rel => exact ⟨by first | rfl | (congr 1 <;> omega), by simp [q1], S.out, T.out⟩
              obtain ⟨rfl, rfl, SA, TA⟩ := hcut
              clear S T
              have S := SA
              have T := TA
              clear SA TA
              go_upto_if 145 with fail
              go_cut [22] from 23 (fun s22 wc => s22 = .int .i64 fin ∧ ∃ d1 : Array α, Aside (Rot r m fin d d1 ∧ SWK enc k w blk off d1 wc) ∧ Aside (Two w.heap.size (.func (.func g) #[] lb) (.func (.func sf) #[] sb) wc))
              case first =>
                have HH := S.out.holds hblk hH rfl
                have hbr := S.out.lt hblk
                by_cases q1 : r < m
                · by_cases q2 : m < fin
                  · have hc := rotate_cells (P := P) (ρ := ρ) { L with } enc k hk (.func g) #[] lb sf sb blk off r m fin d _ hS HH hbr q1 q2 (by omega) hsz
                    have c0 := T.out.1
                    have c1 := T.out.2.1
                    clear HH hH hL hS LR SR ih
                    go_wp2_with (go_at_fn (ρ.f 42); refine hc.mono ?_; rintro e w1 ⟨rfl, d1, R1, W1⟩)
                    go_meet
                    case rel => exact ⟨by first | rfl | (congr 1), d1, ⟨R1, swk_trans S.out hblk W1 R1.size⟩, T.out.step hne W1⟩
                  · clear HH hH hL hS LR SR ih
                    go_wp2_with fail
                    go_meet
                    case rel => exact ⟨by first | rfl | (congr 1), d, ⟨Rot.refl d (Or.inr (by omega)) mf rm, S.out⟩, T.out⟩
                · clear HH hH hL hS LR SR ih
                  go_wp2_with fail
                  go_meet
                  case rel => exact ⟨by first | rfl | (congr 1), d, ⟨Rot.refl d (Or.inl (by omega)) mf rm, S.out⟩, T.out⟩
              case rest =>
                clear S T
                obtain ⟨rfl, d1, S, T⟩ := hcut
                have HD1 : Aside (d1.size = d.size) := S.out.1.size
                have hd1b : b ≤ d1.size := by rw [HD1.out]; exact hb
                have hd1s : d1.size < 4611686018427387904 := by rw [HD1.out]; exact hsz
                have X := MM.out.mid hO ra rm mf fb S.out.1 C1.out C2.out
                rw [emd.out] at X
                have X' : Aside _ := X
                clear X C1 C2 MM
                go_upto_region 42 with fail
                go_cut [22, 158] from 23 (fun s22 s158 wc => s22 = .int .i64 fin ∧ s158 = .bool (decide (a < r ∧ r < mid)) ∧ Aside (SWK enc k w blk off d1 wc) ∧ Aside (Two w.heap.size (.func (.func g) #[] lb) (.func (.func sf) #[] sb) wc))
                case first =>
                  clear hH hL hS LR SR ih
                  by_cases q1 : a < r
                  · by_cases q2 : r < mid
                    · go_wp2_with fail
                      go_meet
                      case rel => exact ⟨by first | rfl | (congr 1 <;> omega), by simp [q1, q2], S.out.2, T.out⟩
                    · go_wp2_with fail
                      go_meet
                      case rel => exact ⟨by first | rfl | (congr 1 <;> omega), by simp [q1, q2], S.out.2, T.out⟩
                  · go_wp2_with fail
                    go_meet
                    case rel => exact ⟨by first | rfl | (congr 1 <;> omega), by simp [q1], S.out.2, T.out⟩
                obtain ⟨rfl, rfl, SA, TA⟩ := hcut
                have SB : Aside (Rot r m fin d d1 ∧ SWK enc k w blk off d1 wc) := ⟨S.out.1, SA.out⟩
                clear S T
                have S := SB
                have T := TA
                clear SA TA SB
                go_upto_if 158 with fail
                go_cut [22] from 23 (fun s22 wc2 => s22 = .int .i64 fin ∧ ∃ d2 : Array α, Aside (PermIn a mid d1 d2 ∧ SS lt ix a mid d2 ∧ SWK enc k w blk off d2 wc2) ∧ Aside (Two w.heap.size (.func (.func g) #[] lb) (.func (.func sf) #[] sb) wc2))
                case first =>
                  have HH := S.out.2.holds hblk hH HD1.out
                  have hbr := S.out.2.lt hblk
                  by_cases q1 : a < r
                  · by_cases q2 : r < mid
                    · have hc := ih a r mid d1 _ (by omega) (LR S.out.2 HD1.out) (SR HD1.out) HH hbr q1 q2 (by omega) (by omega) X'.out.1
                      have c0 := T.out.1
                      have c1 := T.out.2.1
                      clear HH hH hL hS LR SR ih
                      go_wp2_with (go_at_fn (ρ.f 30); refine hc.mono ?_; rintro e w1 ⟨rfl, d2, P2, S2, W2⟩)
                      go_meet
                      case rel => exact ⟨rfl, d2, ⟨P2, S2, swk_trans S.out.2 hblk W2 P2.1⟩, T.out.step hne W2⟩
                    · clear HH hH hL hS LR SR ih
                      go_wp2_with fail
                      go_meet
                      case rel => exact ⟨rfl, d1, ⟨permIn_refl d1 _ _, X'.out.1.done hO ra (by omega) (Or.inr (Or.inl (by omega))), S.out.2⟩, T.out⟩
                  · clear HH hH hL hS LR SR ih
                    go_wp2_with fail
                    go_meet
                    case rel => exact ⟨rfl, d1, ⟨permIn_refl d1 _ _, X'.out.1.done hO ra (by omega) (Or.inl (by omega)), S.out.2⟩, T.out⟩
                case rest =>
                  have P1 : Aside (PermIn a b d d1) := permIn_mono d d1 r fin a b ra fb hb S.out.1.perm
                  clear S T
                  obtain ⟨rfl, d2, S, T⟩ := hcut
                  have HD2 : Aside (d2.size = d.size) := S.out.1.1.trans HD1.out
                  have hd2b : b ≤ d2.size := by rw [HD2.out]; exact hb
                  have hd2s : d2.size < 4611686018427387904 := by rw [HD2.out]; exact hsz
                  have M2 : Mg lt ix mid fin b d2 := ⟨X'.out.2.1.l.congr (fun q hq _ => S.out.1.2.1 q (Or.inr hq)), X'.out.2.1.r.congr (fun q hq _ => S.out.1.2.1 q (Or.inr (by omega))), fun u v hu hu2 hv hv2 => by
                    rw [S.out.1.2.1 u (Or.inr hu), S.out.1.2.1 v (Or.inr (by omega))]; exact X'.out.2.1.i u v hu hu2 hv hv2⟩
                  have M2' : Aside _ := M2
                  clear M2
                  have HH := S.out.2.2.holds hblk hH HD2.out
                  have hbr := S.out.2.2.lt hblk
                  have fini : ∀ (d3 : Array α) (w3 : World), PermIn mid b d2 d3 → SS lt ix mid b d3 → SWK enc k w blk off d3 w3 → ∃ d', PermIn a b d d' ∧ SS lt ix a b d' ∧ SWK enc k w blk off d' w3 := fun d3 w3 p3 s3 h3 => by
                    have J := join_halves (lt := lt) (ix := ix) hd1b (by omega) (by omega) X'.out.2.2 S.out.1 S.out.2.1 p3 s3
                    exact ⟨d3, permIn_trans _ _ _ _ _ P1.out J.1, J.2, h3⟩
                  have F : Aside _ := fini
                  clear fini
                  by_cases q1 : mid < fin
                  · by_cases q2 : fin < b
                    · have hc := ih mid fin b d2 _ (by omega) (LR S.out.2.2 HD2.out) (SR HD2.out) HH hbr q1 q2 (by omega) (by omega) M2'.out
                      have c0 := T.out.1
                      have c1 := T.out.2.1
                      clear HH hH hL hS LR SR ih
                      go_wp2_with (go_at_fn (ρ.f 30); refine hc.mono ?_; rintro e w1 ⟨rfl, d3, P3, S3, W3⟩)
                      go_end0
                      exact ⟨rfl, F.out d3 w1 P3 S3 (swk_trans S.out.2.2 hblk W3 P3.1)⟩
                    · clear HH hH hL hS LR SR ih
                      go_wp2_with fail
                      go_end0
                      exact ⟨rfl, F.out d2 _ (permIn_refl d2 _ _) (M2'.out.done hO (by omega) (by omega) (Or.inr (Or.inl (by omega)))) S.out.2.2⟩
                  · clear HH hH hL hS LR SR ih
                    go_wp2_with fail
                    go_end0
                    exact ⟨rfl, F.out d2 _ (permIn_refl d2 _ _) (M2'.out.done hO (by omega) (by omega) (Or.inl (by omega))) S.out.2.2⟩
end Go.Proofs.YtfpfjnmjekjnhaaGreatDoor.Stb
