/-
  sort.stable_func and sort.SliceStable at elements of k cells, at any length: the row is in the stable order.
-/
import Derived.Test.YtfpfjnmjekjnhaaGreatDoorStb2
set_option linter.unusedVariables false
set_option linter.unusedSimpArgs false
namespace Go.Proofs.YtfpfjnmjekjnhaaGreatDoor.Stb
open Go Go.Proofs Go.Shelf Go.RowKit Go.Lib Go.Sort Go.Proofs.YtfpfjnmjekjnhaaGreatDoor.Srt
variable {P : Program} {ρ : Ren} {α : Type} [Inhabited α]

theorem ins_cells (L : LaysGt.n29 P ρ) (enc : α → List Value) (k : Nat) (hk : ∀ x, (enc x).length = k) (lt : α → α → Bool) (ix : α → Nat) (hO : SWO lt) (g : Nat) (lb : Array Value) (sf : Nat) (sb : Array Value) (blk off a b : Nat) (d : Array α) (w : World)
    (eg : ∀ args w, (callFunc g args).run P w = .ok (.enter g args) w) (hless : LessK P g lb enc k lt blk off d.size w) (hswap : SwapSwapsK P sf sb enc k blk off d.size)
    (hH : HoldsK enc k w blk off d) (hblk : blk < w.heap.size) (hab : a ≤ b) (hb : b ≤ d.size) (hsz : d.size < 1152921504606846976) (hx : ∀ p q, a ≤ p → p < q → q < b → ix d[p]! < ix d[q]!) :
    Calls P (ρ.f 29) #[.agg #[.func (.func g) #[] lb, .func (.func sf) #[] sb], .int .i64 a, .int .i64 b] w fun e w' => e = .returned (.tuple #[]) ∧ ∃ d', PermIn a b d d' ∧ SS lt ix a b d' ∧ SWK enc k w blk off d' w' := by
  refine (insert_cells L enc k hk lt g lb sf sb blk off a b d w eg hless hswap hH hblk hab hb (by omega)).mono ?_
  rintro e w' ⟨he, hw⟩
  have hS := insertionSort_stable (lt := lt) (ix := ix) hO a b d hab hb hx
  exact ⟨he, _, hS.1, hS.2, hw⟩

set_option maxHeartbeats 12000000 in
set_option maxRecDepth 1000000 in
theorem stable_cells (L : LaysGt.n15 P ρ) (enc : α → List Value) (k : Nat) (hk : ∀ x, (enc x).length = k) (lt : α → α → Bool) (ix : α → Nat) (hO : SWO lt) (g : Nat) (lb : Array Value) (sf : Nat) (sb : Array Value) (eg : ∀ args w, (callFunc g args).run P w = .ok (.enter g args) w) (blk off n : Nat) (d : Array α) (w : World)
    (hn : n = d.size) (hL : LessK P g lb enc k lt blk off d.size w) (hS : SwapSwapsK P sf sb enc k blk off d.size) (hH : HoldsK enc k w blk off d) (hblk : blk < w.heap.size) (hsz : d.size < 1152921504606846976) (hx : ∀ p q, p < q → q < d.size → ix d[p]! < ix d[q]!) :
    Calls P (ρ.f 15) #[.agg #[.func (.func g) #[] lb, .func (.func sf) #[] sb], .int .i64 n] w fun e w' => e = .returned (.tuple #[]) ∧ ∃ d', PermIn 0 n d d' ∧ SS lt ix 0 n d' ∧ SWK enc k w blk off d' w' := by
  have mixed := L.mixed; have t0 := L.t0; have a0 := L.a0; have z0 := L.z0; have v0 := L.v0; have t3 := L.t3; have a3 := L.a3; have z3 := L.z3; have v3 := L.v3; have t4 := L.t4; have a4 := L.a4; have z4 := L.z4; have v4 := L.v4; have t26 := L.t26; have a26 := L.a26; have z26 := L.z26; have v26 := L.v26; have t38 := L.t38; have a38 := L.a38; have z38 := L.z38; have v38 := L.v38; have t42 := L.t42; have a42 := L.a42; have z42 := L.z42; have v42 := L.v42; have t47 := L.t47; have a47 := L.a47; have z47 := L.z47; have v47 := L.v47
  have u42 := run_underlying L.t42
  have e29 : ∀ args w, (callFunc (ρ.f 29) args).run P w = .ok (.enter (ρ.f 29) args) w := enters_of L.f29 (by kernel_rfl) rfl
  have e30 : ∀ args w, (callFunc (ρ.f 30) args).run P w = .ok (.enter (ρ.f 30) args) w := enters_of L.f30 (by kernel_rfl) rfl
  have hne : w.heap.size ≠ blk := by omega
  have LR : ∀ {D : Array α} {X : World}, SWK enc k w blk off D X → D.size = d.size → LessK P g lb enc k lt blk off D.size X := fun {D X} hA hs => by rw [hs]; exact hL.on hblk hA hs
  have SR : ∀ {D : Array α}, D.size = d.size → SwapSwapsK P sf sb enc k blk off D.size := fun {D} hs => by rw [hs]; exact hS
  have hnd : n ≤ d.size := by omega
  have hnd2 : d.size ≤ n := by omega
  have HX : Aside (∀ p q, p < q → q < n → ix d[p]! < ix d[q]!) := fun p q h1 h2 => hx p q h1 (by omega)
  clear hx hn
  go_enter L.f15, BodyGt.n15_ntmps ρ
  go_wp2
  go_loopg [5, 6] n (fun kx s5 s6 wr => ∃ (a s : Nat) (dk : Array α), s5 = .int .i64 a ∧ s6 = .int .i64 ((a + 20 : Nat) : Int) ∧ a ≤ s * 20 ∧ s * 20 ≤ a ∧ a ≤ n ∧ n - a ≤ kx ∧ dk.size = d.size ∧ Aside (Bl lt ix 0 20 a dk ∧ (∀ p q, p < q → q < n → a ≤ q → ix dk[p]! < ix dk[q]!) ∧ PermIn 0 n d dk ∧ SWK enc k w blk off dk wr) ∧ Aside (Two w.heap.size (.func (.func g) #[] lb) (.func (.func sf) #[] sb) wr))
  case atStart => exact ⟨0, 0, d, rfl, rfl, by omega, by omega, Nat.zero_le _, by omega, rfl, ⟨Bl.none 20 0 d, fun p q h1 h2 _ => HX.out p q h1 h2, permIn_refl d _ _, (SWK.start hH).alloc _⟩, ⟨by simp, by simp, by simp⟩⟩
  case round =>
    obtain ⟨a, s, dk, rfl, rfl, has, has2, han, hkx, hds, S, T⟩ := hrel
    have c0 := T.out.1
    have c1 := T.out.2.1
    have DS : Aside (dk.size = d.size) := hds
    have hdn : n ≤ dk.size := by omega
    have hdz : dk.size < 1152921504606846976 := by omega
    have HH := S.out.2.2.2.holds hblk hH hds
    have hbr := S.out.2.2.2.lt hblk
    by_cases hlt : a + 20 ≤ n
    · have hc := ins_cells (P := P) (ρ := ρ) { L with } enc k hk lt ix hO g lb sf sb blk off a (a + 20) dk wr eg (LR S.out.2.2.2 hds) (SR hds) HH hbr (by omega) (by omega) hdz (fun p q h1 h2 h3 => S.out.2.1 p q h2 (by omega) (by omega))
      clear HH hH hL hS LR SR hds
      go_wp2_with (go_at_fn (ρ.f 29); refine hc.mono ?_; rintro e w1 ⟨rfl, d1, P1, S1, W1⟩)
      go_roundg (n - (a + 20))
      case measure => omega
      case rel =>
        refine ⟨a + 20, s + 1, d1, by simp, by congr 1, by omega, by omega, hlt, Nat.le_refl _, P1.1.trans DS.out, ⟨?_, ?_, ?_, swk_trans S.out.2.2.2 hblk W1 P1.1⟩, T.out.step hne W1⟩
        · exact Bl.ext (s := s) (by omega) (by omega) (Nat.le_refl _) (by omega) S.out.1 (fun p q h1 h2 h3 => S.out.2.1 p q (by omega) (by omega) h2) P1 S1
        · intro p q h1 h2 h3
          rw [P1.2.1 q (Or.inr h3)]
          by_cases hp : a ≤ p ∧ p < a + 20
          · exact permIn_all dk d1 a (a + 20) (fun x => ix x < ix dk[q]!) (by omega) P1 (fun u hu hu2 => S.out.2.1 u q (by omega) h2 (by omega)) p hp.1 hp.2
          · rw [P1.2.1 p (by omega)]; exact S.out.2.1 p q h1 h2 (by omega)
        · exact permIn_trans _ _ _ _ _ S.out.2.2.1 (permIn_mono dk d1 a (a + 20) 0 n (Nat.zero_le _) hlt hdn P1)
    · have hc := ins_cells (P := P) (ρ := ρ) { L with } enc k hk lt ix hO g lb sf sb blk off a n dk wr eg (LR S.out.2.2.2 hds) (SR hds) HH hbr han hdn hdz (fun p q h1 h2 h3 => S.out.2.1 p q h2 h3 (by omega))
      clear HH hds
      have hlz : ¬ ((a : Int) + 20 ≤ (n : Int)) := by omega
      go_upto_region 7 with fail
      go_cut [4] from 5 (fun s4 wc => s4 = .int .i64 (20 : Nat) ∧ ∃ d1 : Array α, Aside (d1.size = d.size ∧ Bl lt ix 0 20 n d1 ∧ PermIn 0 n d d1 ∧ SWK enc k w blk off d1 wc) ∧ Aside (Two w.heap.size (.func (.func g) #[] lb) (.func (.func sf) #[] sb) wc))
      case first =>
        clear hH hL hS LR SR
        go_wp2_with (go_at_fn (ρ.f 29); refine hc.mono ?_; rintro e w1 ⟨rfl, d1, P1, S1, W1⟩)
        go_meet
        case rel =>
          refine ⟨by first | rfl | (congr 1 <;> omega), d1, ⟨P1.1.trans DS.out, ?_, ?_, swk_trans S.out.2.2.2 hblk W1 P1.1⟩, T.out.step hne W1⟩
          · exact Bl.ext (s := s) (by omega) han (by omega) hdn S.out.1 (fun p q h1 h2 h3 => S.out.2.1 p q (by omega) h3 h2) P1 S1
          · exact permIn_trans _ _ _ _ _ S.out.2.2.1 (permIn_mono dk d1 a n 0 n (Nat.zero_le _) (Nat.le_refl _) hdn P1)
      case rest =>
        clear S T hc c0 c1 DS hdn hdz hbr hlt hlz hkx
        obtain ⟨rfl, d1, S, T⟩ := hcut
        go_wp2
        go_loopg [4] n (fun kx s4 wr => ∃ (bs : Nat) (dk : Array α), s4 = .int .i64 bs ∧ 0 < bs ∧ bs ≤ 2 * n + 20 ∧ n - bs ≤ kx ∧ Aside (dk.size = d.size ∧ Bl lt ix 0 bs n dk ∧ PermIn 0 n d dk ∧ SWK enc k w blk off dk wr) ∧ Aside (Two w.heap.size (.func (.func g) #[] lb) (.func (.func sf) #[] sb) wr))
        case atStart => exact ⟨20, d1, rfl, by omega, by omega, by omega, S.out, T.out⟩
        case round =>
          clear S T
          obtain ⟨bs, dk, rfl, hb0, hbm, hkx, S, T⟩ := hrel
          by_cases hbn : bs < n
          · have hkx0 := hkx
            clear hkx
            go_wp2
            go_loopg [5, 6] n (fun kx s5 s6 wr2 => ∃ (a s : Nat) (dj : Array α), s5 = .int .i64 a ∧ s6 = .int .i64 ((a + 2 * bs : Nat) : Int) ∧ a ≤ n ∧ n - a ≤ kx ∧ Aside (a = s * (2 * bs) ∧ dj.size = d.size ∧ Bl lt ix 0 (2 * bs) a dj ∧ Bl lt ix a bs n dj ∧ (∀ p q, p < a → a ≤ q → q < n → ix dj[p]! < ix dj[q]!) ∧ PermIn 0 n d dj ∧ SWK enc k w blk off dj wr2) ∧ Aside (Two w.heap.size (.func (.func g) #[] lb) (.func (.func sf) #[] sb) wr2))
            case atStart => exact ⟨0, 0, dk, rfl, by simp, Nat.zero_le _, by omega, ⟨by omega, S.out.1, Bl.none _ 0 dk, S.out.2.1, fun p q h1 h2 h3 => by omega, S.out.2.2.1, S.out.2.2.2⟩, T.out⟩
            case round =>
              clear S T
              obtain ⟨a, s, dj, rfl, rfl, han, hkx, S, T⟩ := hrel
              have c0 := T.out.1
              have c1 := T.out.2.1
              have hdn : n ≤ dj.size := by have := S.out.2.1; omega
              have hdz : dj.size < 4611686018427387904 := by have := S.out.2.1; omega
              have HH := S.out.2.2.2.2.2.2.holds hblk hH S.out.2.1
              have hbr := S.out.2.2.2.2.2.2.lt hblk
              by_cases hlt : a + 2 * bs ≤ n
              · have hM : Mg lt ix a (a + bs) (a + 2 * bs) dj := S.out.2.2.2.1.two hlt (Nat.le_refl _) (Or.inr (Nat.le_refl _)) (by omega)
                have hc := symMerge_cells (P := P) (ρ := ρ) { L with } enc k hk lt ix hO g lb sf sb eg blk off (a + 2 * bs - a + 1) a (a + bs) (a + 2 * bs) dj wr (by omega) (LR S.out.2.2.2.2.2.2 S.out.2.1) (SR S.out.2.1) HH hbr (by omega) (by omega) (by omega) hdz hM
                rw [show ((a + bs : Nat) : Int) = (a : Int) + (bs : Int) by omega, show ((a + 2 * bs : Nat) : Int) = (a : Int) + 2 * (bs : Int) by omega] at hc
                clear HH hH hL hS LR SR hM
                go_wp2_with (go_at_fn (ρ.f 30); refine hc.mono ?_; rintro e w1 ⟨rfl, d2, P1, S1, W1⟩)
                go_roundg (n - (a + 2 * bs))
                case measure => omega
                case rel =>
                  refine ⟨a + 2 * bs, s + 1, d2, by congr 1, by congr 1 <;> omega, hlt, Nat.le_refl _, ⟨by rw [S.out.1, Nat.add_mul, Nat.one_mul], P1.1.trans S.out.2.1, ?_, ?_, ?_, ?_, swk_trans S.out.2.2.2.2.2.2 hblk W1 P1.1⟩, T.out.step hne W1⟩
                  · exact Bl.ext (s := s) S.out.1 (by omega) (Nat.le_refl _) (by omega) S.out.2.2.1 (fun p q h1 h2 h3 => S.out.2.2.2.2.1 p q h1 h2 (by omega)) P1 S1
                  · exact S.out.2.2.2.1.skip (fun q hq => P1.2.1 q (Or.inr hq))
                  · intro p q h1 h2 h3
                    rw [P1.2.1 q (Or.inr h2)]
                    by_cases hp : a ≤ p
                    · exact permIn_all dj d2 a (a + 2 * bs) (fun x => ix x < ix dj[q]!) (by omega) P1 (fun u hu hu2 => (S.out.2.2.2.1 2).2 u q hu hu2 h2 h3) p hp h1
                    · rw [P1.2.1 p (Or.inl (by omega))]; exact S.out.2.2.2.2.1 p q (by omega) (by omega) h3
                  · exact permIn_trans _ _ _ _ _ S.out.2.2.2.2.2.1 (permIn_mono dj d2 a (a + 2 * bs) 0 n (Nat.zero_le _) hlt hdn P1)
              · have hlz : ¬ ((a : Int) + 2 * (bs : Int) ≤ (n : Int)) := by omega
                have fini : ∀ (d2 : Array α) (w1 : World), PermIn a n dj d2 → SS lt ix a n d2 → SWK enc k wr blk off d2 w1 → ∃ (bs' : Nat) (dk : Array α), Value.int .i64 ((bs : Int) * 2) = .int .i64 bs' ∧ 0 < bs' ∧ bs' ≤ 2 * n + 20 ∧ n - bs' ≤ n - 2 * bs ∧ Aside (dk.size = d.size ∧ Bl lt ix 0 bs' n dk ∧ PermIn 0 n d dk ∧ SWK enc k w blk off dk w1) ∧ Aside (Two w.heap.size (.func (.func g) #[] lb) (.func (.func sf) #[] sb) w1) := fun d2 w1 P1 S1 W1 =>
                  ⟨2 * bs, d2, by congr 1; omega, by omega, by omega, Nat.le_refl _, ⟨P1.1.trans S.out.2.1, Bl.ext (s := s) S.out.1 han (by omega) hdn S.out.2.2.1 S.out.2.2.2.2.1 P1 S1, permIn_trans _ _ _ _ _ S.out.2.2.2.2.2.1 (permIn_mono dj d2 a n 0 n (Nat.zero_le _) (Nat.le_refl _) hdn P1), swk_trans S.out.2.2.2.2.2.2 hblk W1 P1.1⟩, T.out.step hne W1⟩
                have F : Aside _ := fini
                clear fini
                by_cases hm : a + bs < n
                · have hM : Mg lt ix a (a + bs) n dj := S.out.2.2.2.1.two (Nat.le_refl _) (by omega) (Or.inl (Nat.le_refl _)) (by omega)
                  have hc := symMerge_cells (P := P) (ρ := ρ) { L with } enc k hk lt ix hO g lb sf sb eg blk off (n - a + 1) a (a + bs) n dj wr (by omega) (LR S.out.2.2.2.2.2.2 S.out.2.1) (SR S.out.2.1) HH hbr (by omega) (by omega) (by omega) hdz hM
                  rw [show ((a + bs : Nat) : Int) = (a : Int) + (bs : Int) by omega] at hc
                  have hmz : (a : Int) + (bs : Int) < (n : Int) := by omega
                  clear HH hH hL hS LR SR hM
                  go_wp2_with (go_at_fn (ρ.f 30); refine hc.mono ?_; rintro e w1 ⟨rfl, d2, P1, S1, W1⟩)
                  go_roundg (n - 2 * bs)
                  case measure => omega
                  case rel => exact F.out d2 w1 P1 S1 W1
                · have hmz : ¬ ((a : Int) + (bs : Int) < (n : Int)) := by omega
                  have W0 : Aside (SWK enc k wr blk off dj wr) := SWK.start HH
                  have S0 : Aside (SS lt ix a n dj) := S.out.2.2.2.1.one (by omega)
                  clear HH hH hL hS LR SR
                  go_wp2_with fail
                  go_roundg (n - 2 * bs)
                  case measure => omega
                  case rel => exact F.out dj wr (permIn_refl dj _ _) S0.out W0.out
          · clear hH hL hS LR SR
            go_wp2
            go_end0
            exact ⟨rfl, dk, S.out.2.2.1, S.out.2.1.whole (by omega), S.out.2.2.2⟩
/-- **sort.SliceStable at two elements or more, of k cells: the stable order.** -/
theorem sliceStable_cells (L : LaysGt.n8 P ρ) (t e : TypeId) (i ie : TypeInfo) (hi : P.info? t = some i) (hd : i.desc = .slice e) (hpk : P.packed t = false) (hie : P.info? e = some ie) (ke : Nat) (hke : ∀ w, (Extern.Rtype.kind e).run P w = .ok ke w)
    (enc : α → List Value) (k : Nat) (hk : ∀ x, (enc x).length = k) (hs1 : ie.size = k) (hagg : ∀ w, (isAgg e).run P w = .ok true w) (h1 : ∀ x, ∀ v ∈ enc x, v.oneCell' = true) (lt : α → α → Bool) (ix : α → Nat) (hO : SWO lt) (g : Nat) (lb : Array Value)
    (eg : ∀ args w, (callFunc g args).run P w = .ok (.enter g args) w) (blk off c : Nat) (d : Array α) (h2 : 2 ≤ d.size) (hsz : d.size < 1152921504606846976)
    (f : Nat) (hf : P.funcs.findIdx? (·.name == "internal/reflectlite" ++ ".Swapper$" ++ toString (swapperK d.size ie ke)) = some f)
    (gS : Bool) (hx : ∀ args W, (callFunc f args).run P W = ((Extern.ReflectliteSwapper.swap gS args).run P W).andThen fun v w' => .ok (.value v) w')
    (w : World) (hless : LessK P g lb enc k lt blk off d.size w) (hH : HoldsK enc k w blk off d) (hblk : blk < w.heap.size) (hix : ∀ p q, p < q → q < d.size → ix d[p]! < ix d[q]!) :
    Calls P (ρ.f 8) #[.iface t (.slice (some ⟨blk, off, none⟩) d.size c), .func (.func g) #[] lb] w fun e w' =>
      e = .returned (.tuple #[]) ∧ ∃ d', PermIn 0 d.size d d' ∧ SS lt ix 0 d.size d' ∧ SWK enc k w blk off d' w' := by
  refine Any.sort_SliceStable_of_stable L t e i ie hi hd hpk hie ke hke _ d.size c (by omega) f hf (.func g) #[] lb w _ ?_
  have hB : sliceBound P e ie ke (some ⟨blk, off, none⟩) d.size c = #[.slice (some ⟨blk, off, none⟩) d.size c, typeHandle P e] := by
    unfold sliceBound; rw [if_neg (swapperK_gt _ _ _ h2)]
  have hW : SWK enc k w blk off d (stableWorld P ρ t (some ⟨blk, off, none⟩) d.size c w) := ((SWK.start hH).alloc _).alloc _
  rw [hB]
  have hp := stable_cells (P := P) (ρ := ρ) { L with } enc k hk lt ix hO g lb f #[.slice (some ⟨blk, off, none⟩) d.size c, typeHandle P e] eg blk off d.size d (stableWorld P ρ t (some ⟨blk, off, none⟩) d.size c w) rfl (hless.on hblk hW rfl)
    (swapSwapsK_of_literal gS f hx e ie hie enc k hk hs1 hagg h1 blk off d.size c) (hW.holds hblk hH rfl) (hW.lt hblk) hsz hix
  refine hp.mono ?_
  rintro e w' ⟨he, d', P1, S1, W1⟩
  exact ⟨he, d', P1, S1, swk_trans hW hblk W1 P1.1⟩
end Go.Proofs.YtfpfjnmjekjnhaaGreatDoor.Stb
