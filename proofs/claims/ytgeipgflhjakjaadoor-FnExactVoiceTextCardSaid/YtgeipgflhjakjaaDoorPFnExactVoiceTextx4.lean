-- by wip/xprint.py, over the kit's printer
import Derived.Test.YtgeipgflhjakjaaDoorPFnExactVoiceTextx0
import Derived.Test.YtgeipgflhjakjaaDoorPFnExactVoiceTextx3
namespace Go.Proofs.YtgeipgflhjakjaaDoor.PFnExactVoiceText
open Go.RowKit Go.Proofs.YtgeipgflhjakjaaDoorW.PrintWords Go.Proofs.YtgeipgflhjakjaaDoorW.PrintLast Go.Proofs.YtgeipgflhjakjaaDoorW.PrintMore
attribute [local go_sem] max2_int min2_int max_two min_two max_three min_three max_four min_four   -- for this text's walks alone
set_option linter.unusedVariables false
set_option linter.unusedSimpArgs false

/-! ### impl_eventText: function 44 -/
def impl_eventText.f (k : Nat) (a0_0 : Int) (a0_1 : Int) (a0_2 : Int) : Option (ByteArray) := if a0_0 = 0 then (if 1 + 1 ≤ 9223372036854775807 then ((impl_words.f k (([a0_1] : List Int))).bind fun t178 => (if 1 + t178.size ≤ 9223372036854775807 then (if (((⟨#[114]⟩ : ByteArray) ++ (⟨#[42]⟩ : ByteArray)) ++ t178).size + 1 ≤ 9223372036854775807 then ((impl_words.f k (([a0_2] : List Int))).bind fun t182 => (if ((((⟨#[114]⟩ : ByteArray) ++ (⟨#[42]⟩ : ByteArray)) ++ t178) ++ (⟨#[47]⟩ : ByteArray)).size + t182.size ≤ 9223372036854775807 then (some (((((⟨#[114]⟩ : ByteArray) ++ (⟨#[42]⟩ : ByteArray)) ++ t178) ++ (⟨#[47]⟩ : ByteArray)) ++ t182)) else (none))) else (none)) else (none))) else (none)) else ((impl_pitchName.f a0_0).bind fun t183 => (if t183.size + 1 ≤ 9223372036854775807 then ((impl_words.f k (([a0_1] : List Int))).bind fun t187 => (if (t183 ++ (⟨#[42]⟩ : ByteArray)).size + t187.size ≤ 9223372036854775807 then (if ((t183 ++ (⟨#[42]⟩ : ByteArray)) ++ t187).size + 1 ≤ 9223372036854775807 then ((impl_words.f k (([a0_2] : List Int))).bind fun t191 => (if (((t183 ++ (⟨#[42]⟩ : ByteArray)) ++ t187) ++ (⟨#[47]⟩ : ByteArray)).size + t191.size ≤ 9223372036854775807 then (some ((((t183 ++ (⟨#[42]⟩ : ByteArray)) ++ t187) ++ (⟨#[47]⟩ : ByteArray)) ++ t191)) else (none))) else (none)) else (none))) else (none)))
theorem impl_eventText.mono : ∀ a0 a1 a2 k, LeO (impl_eventText.f k a0 a1 a2) (impl_eventText.f (k + 1) a0 a1 a2) := by
  intro a0 a1 a2 k
  unfold impl_eventText.f
  repeat' first
      | (with_reducible exact impl_words.mono _ _)
      | (with_reducible exact LeO.refl _)
      | (with_reducible exact LeO.none _)
      | (with_reducible refine LeO.ite ?_ ?_)
      | (with_reducible refine LeO.bind ?_ (fun _ => ?_))
      | exact impl_words.mono _ _
      | exact LeO.none _
      | refine LeO.ite ?_ ?_
      | refine LeO.bind ?_ (fun _ => ?_)
def impl_eventText.T4 : Bool × List (List Nat × List Nat) := (true, [([], []), ([0], [0]), ([], []), ([2], [2]), ([3], [3]), ([4], [4]), ([1, 5], [1, 5]), ([6], [6]), ([], []), ([8], [8]), ([9], [9]), ([10, 5], [10]), ([7, 11], [7, 11]), ([12, 11, 0, 1, 2, 3, 4, 5, 6, 7, 8, 9, 10, 11, 12], [12])])
def impl_eventText.B4 : List Nat := [0, 1, 0, 4, 12, 28, 63, 127, 0, 256, 768, 1852, 4095, 8191]
theorem impl_eventText.tab4 : rtab .any (opsOf Tryd.f44 4) = impl_eventText.T4 := by kernel_rfl
theorem impl_eventText.bits4 : waitsOk impl_eventText.T4.2 impl_eventText.B4 = true := by kernel_rfl
set_option maxHeartbeats 8000000 in
set_option maxRecDepth 100000 in
theorem impl_eventText.calls (k : Nat) (a0_0 : Int) (a0_1 : Int) (a0_2 : Int) (r : ByteArray) (w : World) (h : impl_eventText.f k a0_0 a0_1 a0_2 = some r) :
    Calls Tryd.prog 44 #[.agg #[.int .i64 a0_0, .int .i64 a0_1, .int .i64 a0_2]] w fun e w' => e = .returned (.string r) ∧ Below w.heap.size w w' := by
  have hu72 := Tryd.underlying72
  have HB := Aside0.mk (Below.refl w.heap.size w)
  have H : (if a0_0 = 0 then (if 1 + 1 ≤ 9223372036854775807 then ((impl_words.f k (([a0_1] : List Int))).bind fun t178 => (if 1 + t178.size ≤ 9223372036854775807 then (if (((⟨#[114]⟩ : ByteArray) ++ (⟨#[42]⟩ : ByteArray)) ++ t178).size + 1 ≤ 9223372036854775807 then ((impl_words.f k (([a0_2] : List Int))).bind fun t182 => (if ((((⟨#[114]⟩ : ByteArray) ++ (⟨#[42]⟩ : ByteArray)) ++ t178) ++ (⟨#[47]⟩ : ByteArray)).size + t182.size ≤ 9223372036854775807 then (some (((((⟨#[114]⟩ : ByteArray) ++ (⟨#[42]⟩ : ByteArray)) ++ t178) ++ (⟨#[47]⟩ : ByteArray)) ++ t182)) else (none))) else (none)) else (none))) else (none)) else ((impl_pitchName.f a0_0).bind fun t183 => (if t183.size + 1 ≤ 9223372036854775807 then ((impl_words.f k (([a0_1] : List Int))).bind fun t187 => (if (t183 ++ (⟨#[42]⟩ : ByteArray)).size + t187.size ≤ 9223372036854775807 then (if ((t183 ++ (⟨#[42]⟩ : ByteArray)) ++ t187).size + 1 ≤ 9223372036854775807 then ((impl_words.f k (([a0_2] : List Int))).bind fun t191 => (if (((t183 ++ (⟨#[42]⟩ : ByteArray)) ++ t187) ++ (⟨#[47]⟩ : ByteArray)).size + t191.size ≤ 9223372036854775807 then (some ((((t183 ++ (⟨#[42]⟩ : ByteArray)) ++ t187) ++ (⟨#[47]⟩ : ByteArray)) ++ t191)) else (none))) else (none)) else (none))) else (none)))) = some r := h
  clear h
  by_cases c2 : a0_0 = 0
  · rw [if_pos c2] at H
    have c2b0 : (a0_0 == 0) = true := beq_iff_eq.mpr c2
    have c2b1 : (a0_0 != 0) = false := bne_eq_false_iff_eq.mpr c2
    clear c2
    by_cases c3 : 1 + 1 ≤ 9223372036854775807
    · rw [if_pos c3] at H
      have c3b0 := eq_true c3
      have c3b1 : decide (1 + 1 ≤ 9223372036854775807) = true := decide_eq_true c3
      try have c3b2 : (9223372036854775807 < 1 + 1) = False := eq_false (Nat.not_lt.2 c3)
      obtain ⟨y175, hy175⟩ : ∃ y_ : List Int, y_ = (([a0_1] : List Int)) := ⟨_, rfl⟩
      replace H : ((impl_words.f k y175).bind fun t178 => (if 1 + t178.size ≤ 9223372036854775807 then (if (((⟨#[114]⟩ : ByteArray) ++ (⟨#[42]⟩ : ByteArray)) ++ t178).size + 1 ≤ 9223372036854775807 then ((impl_words.f k (([a0_2] : List Int))).bind fun t182 => (if ((((⟨#[114]⟩ : ByteArray) ++ (⟨#[42]⟩ : ByteArray)) ++ t178) ++ (⟨#[47]⟩ : ByteArray)).size + t182.size ≤ 9223372036854775807 then (some (((((⟨#[114]⟩ : ByteArray) ++ (⟨#[42]⟩ : ByteArray)) ++ t178) ++ (⟨#[47]⟩ : ByteArray)) ++ t182)) else (none))) else (none)) else (none))) = some r := by first | (rw [hy175]; with_reducible exact H) | (have H2_ := (Option.bind_some _ _).symm.trans H; rw [hy175]; with_reducible exact H2_) | (have H2_ := (Option.bind_some _ _).symm.trans H; with_reducible exact H2_) | with_reducible exact H | (rw [hy175]; exact H) | exact H
      have Ny175 := Aside0.mk hy175
      clear hy175
      replace H := Option.bind_eq_some_iff.mp H
      obtain ⟨t178, A40, H⟩ := H
      replace H : (if 1 + t178.size ≤ 9223372036854775807 then (if (((⟨#[114]⟩ : ByteArray) ++ (⟨#[42]⟩ : ByteArray)) ++ t178).size + 1 ≤ 9223372036854775807 then ((impl_words.f k (([a0_2] : List Int))).bind fun t182 => (if ((((⟨#[114]⟩ : ByteArray) ++ (⟨#[42]⟩ : ByteArray)) ++ t178) ++ (⟨#[47]⟩ : ByteArray)).size + t182.size ≤ 9223372036854775807 then (some (((((⟨#[114]⟩ : ByteArray) ++ (⟨#[42]⟩ : ByteArray)) ++ t178) ++ (⟨#[47]⟩ : ByteArray)) ++ t182)) else (none))) else (none)) else (none)) = some r := H
      have A4 := Aside0.mk A40
      clear A40
      by_cases c5 : 1 + t178.size ≤ 9223372036854775807
      · rw [if_pos c5] at H
        have c5b0 := eq_true c5
        have c5b1 : decide (1 + t178.size ≤ 9223372036854775807) = true := decide_eq_true c5
        try have c5b2 : (9223372036854775807 < 1 + t178.size) = False := eq_false (Nat.not_lt.2 c5)
        by_cases c6 : (((⟨#[114]⟩ : ByteArray) ++ (⟨#[42]⟩ : ByteArray)) ++ t178).size + 1 ≤ 9223372036854775807
        · rw [if_pos c6] at H
          have c6b0 := eq_true c6
          have c6b1 : decide ((((⟨#[114]⟩ : ByteArray) ++ (⟨#[42]⟩ : ByteArray)) ++ t178).size + 1 ≤ 9223372036854775807) = true := decide_eq_true c6
          try have c6b2 : (9223372036854775807 < (((⟨#[114]⟩ : ByteArray) ++ (⟨#[42]⟩ : ByteArray)) ++ t178).size + 1) = False := eq_false (Nat.not_lt.2 c6)
          have c6s := c6
          try simp only [ByteArray.size_append, show (⟨#[114]⟩ : ByteArray).size = 1 from rfl, show (⟨#[42]⟩ : ByteArray).size = 1 from rfl] at c6s
          have c6s0 := eq_true c6s
          have c6s1 := decide_eq_true c6s
          try have c6s2 := eq_false (Nat.not_lt.2 c6s)
          obtain ⟨y179, hy179⟩ : ∃ y_ : List Int, y_ = (([a0_2] : List Int)) := ⟨_, rfl⟩
          replace H : ((impl_words.f k y179).bind fun t182 => (if ((((⟨#[114]⟩ : ByteArray) ++ (⟨#[42]⟩ : ByteArray)) ++ t178) ++ (⟨#[47]⟩ : ByteArray)).size + t182.size ≤ 9223372036854775807 then (some (((((⟨#[114]⟩ : ByteArray) ++ (⟨#[42]⟩ : ByteArray)) ++ t178) ++ (⟨#[47]⟩ : ByteArray)) ++ t182)) else (none))) = some r := by first | (rw [hy179]; with_reducible exact H) | (have H2_ := (Option.bind_some _ _).symm.trans H; rw [hy179]; with_reducible exact H2_) | (have H2_ := (Option.bind_some _ _).symm.trans H; with_reducible exact H2_) | with_reducible exact H | (rw [hy179]; exact H) | exact H
          have Ny179 := Aside0.mk hy179
          clear hy179
          replace H := Option.bind_eq_some_iff.mp H
          obtain ⟨t182, A70, H⟩ := H
          replace H : (if ((((⟨#[114]⟩ : ByteArray) ++ (⟨#[42]⟩ : ByteArray)) ++ t178) ++ (⟨#[47]⟩ : ByteArray)).size + t182.size ≤ 9223372036854775807 then (some (((((⟨#[114]⟩ : ByteArray) ++ (⟨#[42]⟩ : ByteArray)) ++ t178) ++ (⟨#[47]⟩ : ByteArray)) ++ t182)) else (none)) = some r := H
          have A7 := Aside0.mk A70
          clear A70
          by_cases c8 : ((((⟨#[114]⟩ : ByteArray) ++ (⟨#[42]⟩ : ByteArray)) ++ t178) ++ (⟨#[47]⟩ : ByteArray)).size + t182.size ≤ 9223372036854775807
          · rw [if_pos c8] at H
            have c8b0 := eq_true c8
            have c8b1 : decide (((((⟨#[114]⟩ : ByteArray) ++ (⟨#[42]⟩ : ByteArray)) ++ t178) ++ (⟨#[47]⟩ : ByteArray)).size + t182.size ≤ 9223372036854775807) = true := decide_eq_true c8
            try have c8b2 : (9223372036854775807 < ((((⟨#[114]⟩ : ByteArray) ++ (⟨#[42]⟩ : ByteArray)) ++ t178) ++ (⟨#[47]⟩ : ByteArray)).size + t182.size) = False := eq_false (Nat.not_lt.2 c8)
            have c8s := c8
            try simp only [ByteArray.size_append, show (⟨#[114]⟩ : ByteArray).size = 1 from rfl, show (⟨#[42]⟩ : ByteArray).size = 1 from rfl, show (⟨#[47]⟩ : ByteArray).size = 1 from rfl] at c8s
            have c8s0 := eq_true c8s
            have c8s1 := decide_eq_true c8s
            try have c8s2 := eq_false (Nat.not_lt.2 c8s)
            obtain rfl := Option.some.inj H
            go_enter Tryd.func44, Tryd.ntmps44
            try go_wp2_with (first | ((with_reducible refine gate_dst (N := 1) rfl ?_); refine box_event ?hg (N := 1) ?hd (cs := #[.int .i64 a0_0, .int .i64 a0_1, .int .i64 a0_2]) (t := 72) ?hr ?_; (case hd => rfl); (case hg => rfl); (case hr => first | (go_simp; done) | (go_simp; rfl)); intro gb174 hg w9 hbox hb; have n0_ := Aside0.mk (below_step (by repeat (first | (with_reducible first | exact HB.out | apply below_alloc | apply pw_below_drewN | apply below_drew1) | exact HB.out)) hb); have n1_ := Aside0.mk (hbox); have n2_ := Aside0.mk ((by rw [hg]; exact (below_size (by repeat (first | (with_reducible first | exact HB.out | apply below_alloc | apply pw_below_drewN | apply below_drew1) | exact HB.out))) : w.heap.size ≤ gb174)); have n3_ := Aside0.mk ((by rw [hg]; exact (below_size (by repeat (first | (with_reducible first | exact HB.out | apply below_alloc | apply pw_below_drewN | apply below_drew1) | exact HB.out))) : w.heap.size ≤ gb174)); clear HB; have HB := n0_; have BK174 := n1_; have GW174 := n2_; have GE174 := n3_; clear n0_ n1_ n2_ n3_; clear hb hbox hg; have hcz10_0 : w9.cell? ⟨gb174, 0, none⟩ = some (.int .i64 a0_0) := (blk_cell BK174.out 0).trans rfl; have hcz10_1 : w9.cell? ⟨gb174, 1, none⟩ = some (.int .i64 a0_1) := (blk_cell BK174.out 1).trans rfl; have hcz10_2 : w9.cell? ⟨gb174, 2, none⟩ = some (.int .i64 a0_2) := (blk_cell BK174.out 2).trans rfl; have hfz10_0 := blk_frozen BK174.out 0; have hfz10_1 := blk_frozen BK174.out 1; have hfz10_2 := blk_frozen BK174.out 2))
            have n0_ := Aside0.mk (blk_drew BK174.out)
            have n1_ := Aside0.mk (below_drew1 HB.out)
            clear BK174
            clear HB
            have BK174 := n0_
            have HB := n1_
            clear n0_ n1_
            refine start_ (n := 14) (S := fun w' => True) (ds := []) #[false, false, false, false, false, false, false, false, false, false, false, false, false, false] (by kernel_rfl) rfl rfl trivial (fun hHeld => ?_); refine with_tabW impl_eventText.tab4 impl_eventText.bits4 (fun HT_ HW_ => ?_)
            generalize w9.drew = w11 at BK174 HB hHeld ⊢
            refine pure_ (i := 0) (N := some 10) (v := ?_) (a' := ?_) #[true, false, false, false, false, false, false, false, false, false, false, false, false, false] rfl rfl (any_of HT_.out (by kernel_rfl)) (fun _ _ _ h => h) (Or.inl ⟨by rfl, ?_⟩) ?_ ?_
            rotate_left
            · intro w'
              go_simp
              with_reducible rfl
            rotate_left
            · simp only [Act.put, List.setIfInBounds_toArray, List.set_cons_zero, List.set_cons_succ, i64_w, i32_w]
              rfl
            refine pure_ (i := 2) (N := some 12) (v := ?_) (a' := ?_) #[true, false, true, false, false, false, false, false, false, false, false, false, false, false] rfl rfl (any_of HT_.out (by kernel_rfl)) (fun _ _ _ h => h) (Or.inl ⟨by rfl, ?_⟩) ?_ ?_
            rotate_left
            · intro w'
              go_simp
              with_reducible rfl
            rotate_left
            · simp only [Act.put, List.setIfInBounds_toArray, List.set_cons_zero, List.set_cons_succ, i64_w, i32_w]
              rfl
            refine pure_ (i := 8) (N := some 18) (v := ?_) (a' := ?_) #[true, false, true, false, false, false, false, false, true, false, false, false, false, false] rfl rfl (any_of HT_.out (by kernel_rfl)) (fun _ _ _ h => h) (Or.inl ⟨by rfl, ?_⟩) ?_ ?_
            rotate_left
            · intro w'
              go_simp
              with_reducible rfl
            rotate_left
            · simp only [Act.put, List.setIfInBounds_toArray, List.set_cons_zero, List.set_cons_succ, i64_w, i32_w]
              rfl
            refine inv_at [1, 3, 4, 5, 6, 7, 9, 10, 11, 12, 13] (fun a0_ b a w' => ∃ (v176 : Value) (v180 : Value), a = putSel a0_ b [(1, 11, .string ((⟨#[114]⟩ : ByteArray) ++ (⟨#[42]⟩ : ByteArray))), (3, 13, .int .i64 a0_1), (4, 14, v176), (5, 15, .string t178), (6, 16, .string (((⟨#[114]⟩ : ByteArray) ++ (⟨#[42]⟩ : ByteArray)) ++ t178)), (7, 17, .string ((((⟨#[114]⟩ : ByteArray) ++ (⟨#[42]⟩ : ByteArray)) ++ t178) ++ (⟨#[47]⟩ : ByteArray))), (9, 19, .int .i64 a0_2), (10, 20, v180), (11, 21, .string t182), (12, 22, .string (((((⟨#[114]⟩ : ByteArray) ++ (⟨#[42]⟩ : ByteArray)) ++ t178) ++ (⟨#[47]⟩ : ByteArray)) ++ t182)), (13, 2, .string (((((⟨#[114]⟩ : ByteArray) ++ (⟨#[42]⟩ : ByteArray)) ++ t178) ++ (⟨#[47]⟩ : ByteArray)) ++ t182))] ∧ (w'.heap[gb174]? = some (.cells #[.int .i64 a0_0, .int .i64 a0_1, .int .i64 a0_2] 72 (0, 0))) ∧ (Below w.heap.size w w') ∧ (b 4 = true → Kd.R (Kd.int .i64) 3 w' w.heap.size (fun _ => True) v176 y175) ∧ (b 10 = true → Kd.R (Kd.int .i64) 3 w' w.heap.size (fun _ => True) v180 y179)) HT_.out HW_.out (by kernel_rfl) (by kernel_rfl) ?_ ?_ ?_
            · exact ⟨.bool false, .bool false, by simp only [putSel, Bool.false_eq_true, if_false], BK174.out, HB.out, fun h_ => absurd h_ (by decide), fun h_ => absurd h_ (by decide)⟩
            · skip
              clear BK174 HB
              refine steps_cons ?_ ?_
              · rintro b a w' ⟨v176, v180, ha, Q_BK174, Q_HB, Q_HO177, Q_HO181⟩ hb_ hon hoff
                refine ⟨_, rfl, fun K hK => ?_⟩
                have e10 : a.tmps[10]? = some (.string (⟨#[114]⟩ : ByteArray)) := by rw [ha]; exact (putSel_off rfl).trans rfl
                replace ha := Aside0.mk ha
                have BK174 := Aside0.mk Q_BK174
                have HB := Aside0.mk Q_HB
                refine value_ (w1 := w') (v := .string ((⟨#[114]⟩ : ByteArray) ++ (⟨#[42]⟩ : ByteArray))) (by rfl) rfl ?_ ?_
                · go_simp
                  (try simp only [i64_w])
                  try rfl
                  all_goals (try omega)
                refine hK.out _ _ ⟨v176, v180, (by rw [ha.out]; exact putSel_upk 0 hb_ rfl rfl rfl), Q_BK174, Q_HB, Q_HO177, Q_HO181⟩
              refine steps_cons ?_ ?_
              · rintro b a w' ⟨v176, v180, ha, Q_BK174, Q_HB, Q_HO177, Q_HO181⟩ hb_ hon hoff
                refine ⟨_, rfl, fun K hK => ?_⟩
                have e12 : a.tmps[12]? = some (.pointer (some ⟨gb174, 1, none⟩)) := by rw [ha]; exact (putSel_off rfl).trans rfl
                replace ha := Aside0.mk ha
                have BK174 := Aside0.mk Q_BK174
                have HB := Aside0.mk Q_HB
                have hc0_ : w'.cell? ⟨gb174, 0, none⟩ = some (.int .i64 a0_0) := (blk_cell BK174.out 0).trans rfl
                have hc1_ : w'.cell? ⟨gb174, 1, none⟩ = some (.int .i64 a0_1) := (blk_cell BK174.out 1).trans rfl
                have hc2_ : w'.cell? ⟨gb174, 2, none⟩ = some (.int .i64 a0_2) := (blk_cell BK174.out 2).trans rfl
                refine value_ (w1 := w') (v := .int .i64 a0_1) (by rfl) rfl ?_ ?_
                · go_simp
                  (try simp only [i64_w])
                  try rfl
                  all_goals (try omega)
                refine hK.out _ _ ⟨v176, v180, (by rw [ha.out]; exact putSel_upk 1 hb_ rfl rfl rfl), Q_BK174, Q_HB, fun h0_ => absurd ((hoff 4 (by kernel_rfl)).symm.trans h0_) (by decide), Q_HO181⟩
              refine steps_cons ?_ ?_
              · rintro b a w' ⟨v176, v180, ha, Q_BK174, Q_HB, Q_HO177, Q_HO181⟩ hb_ hon hoff
                refine ⟨_, rfl, fun K hK => ?_⟩
                have e13 : a.tmps[13]? = some (.int .i64 a0_1) := by rw [ha]; exact putSel_on (e := (3, 13, .int .i64 a0_1)) 1 rfl rfl (hon 3 (by kernel_rfl)) rfl
                replace ha := Aside0.mk ha
                have BK174 := Aside0.mk Q_BK174
                have HB := Aside0.mk Q_HB
                refine Kd.R_lit_step (Kd.int .i64) _ 3 ?hg (N := 14) ?hd (xs := ([a0_1] : List Int)) (inner := [.int .i64 a0_1]) (ok := fun _ => True) (okp := fun _ => True) ?hr ?hp (fun _ hk => hk) trivial (Below.refl _ _) (Nat.le_refl _) (by simp) ?_; (case hd => rfl); (case hg => rfl); (case hr => first | (go_simp; done) | (go_simp; rfl)); (case hp => exact (Reps.one (show Kd.M (Kd.int .i64) _ _ _ a0_1 [.int .i64 a0_1] from rfl) (Reps.none _ _)))
                intro v176 w12 ho13 hb hg_ hnew_
                clear hg_ hnew_
                (first | rw [← Ny175.out] at ho13 | (simp only [Int.reduceToNat] at ho13; rw [← Ny175.out] at ho13))
                have n0_ := Aside0.mk (Kd.R_lower ho13 (below_size (by repeat (first | (with_reducible first | exact HB.out | apply below_alloc | apply pw_below_drewN | apply below_drew1 | refine below_set ?_ GE174.out) | exact HB.out))))
                have n1_ := Aside0.mk (blk_below (g := gb174) (o := .cells #[.int .i64 a0_0, .int .i64 a0_1, .int .i64 a0_2] 72 (0, 0)) (by (with_reducible repeat (first | refine blk_drewN ?_ _ | refine blk_drew ?_ | refine blk_alloc ?_ _)); exact BK174.out) hb)
                have n2_ := Aside0.mk (below_step (by repeat (first | (with_reducible first | exact HB.out | apply below_alloc | apply pw_below_drewN | apply below_drew1 | refine below_set ?_ GE174.out) | exact HB.out)) hb)
                have z_HO181 := fun (h0_ : b 10 = true) => (show Kd.R (Kd.int .i64) 3 w12 w.heap.size (fun _ => True) v180 y179 from by first | exact (Kd.R_elder' (by (with_reducible repeat (first | apply Kd.R_alloc | apply Kd.R_drewN | apply Kd.R_drew)); exact (Q_HO181 h0_)) (Kd.R_base ho13) hb) | exact Kd.R_mono (Kd.R_elder' (by (with_reducible repeat (first | apply Kd.R_alloc | apply Kd.R_drewN | apply Kd.R_drew)); exact (Q_HO181 h0_)) (Kd.R_base ho13) hb) (fun _ h_ => by first | trivial | exact h_ | exact h_.1))
                clear BK174
                clear HB
                have HO177 := n0_
                have BK174 := n1_
                have HB := n2_
                clear n0_ n1_ n2_
                clear hb ho13
                refine hK.out _ _ ⟨v176, v180, (by rw [ha.out]; exact putSel_upk 2 hb_ rfl rfl rfl), (by (with_reducible repeat (first | refine blk_drewN ?_ _ | refine blk_drew ?_ | refine blk_alloc ?_ _)); exact BK174.out), (by repeat (first | (with_reducible first | exact HB.out | apply below_alloc | apply pw_below_drewN | apply below_drew1 | refine below_set ?_ GE174.out) | exact HB.out)), fun _ => (by (with_reducible repeat (first | apply Kd.R_alloc | apply Kd.R_drewN | apply Kd.R_drew)); exact HO177.out), z_HO181⟩
              refine steps_cons ?_ ?_
              · rintro b a w' ⟨v176, v180, ha, Q_BK174, Q_HB, Q_HO177, Q_HO181⟩ hb_ hon hoff
                refine ⟨_, rfl, fun K hK => ?_⟩
                have e14 : a.tmps[14]? = some (v176) := by rw [ha]; exact putSel_on (e := (4, 14, v176)) 2 rfl rfl (hon 4 (by kernel_rfl)) rfl
                replace ha := Aside0.mk ha
                have BK174 := Aside0.mk Q_BK174
                have HB := Aside0.mk Q_HB
                have HO177 := Aside0.mk (Q_HO177 (hon 4 (by kernel_rfl)))
                obtain ⟨Ao15, co15, eo15⟩ := Kd.R_slice HO177.out
                (first | subst eo15 | (injection eo15 with f1_ f2_ f3_; have f4_ := f1_.symm; have f5_ := f3_.symm; clear f1_ f2_ f3_; subst f4_; subst f5_))
                refine goes_ Tryd.func37 (by kernel_rfl) rfl #[.slice Ao15 y175.length co15] (by rfl) rfl rfl (by first | (simp only [List.map_toArray, List.map_cons, List.map_nil, Act.eval, Array.getD_eq_getD_getElem?, Option.getD_some, e14]; done) | (simp only [List.map_toArray, List.map_cons, List.map_nil, Act.eval, Array.getD_eq_getD_getElem?, Option.getD_some, e14]; rfl)) ?_
                with_reducible refine (impl_words.calls k _ _ y175 t178 _ ?side1 ?side2 A4.out).mono ?_
                (case side1 => repeat (first | exact (Kd.R_reads' HO177.out).2.2 | (with_reducible refine Kd.C_alloc ?_ _) | (with_reducible refine Kd.C_drewN ?_ _) | (with_reducible refine Kd.C_drew ?_)))
                (case side2 => exact (Kd.R_reads' HO177.out).2.1)
                rintro e w16 ⟨rfl, hb⟩
                refine ⟨_, rfl, ?_⟩
                have n0_ := Aside0.mk (Kd.R_below (by (with_reducible repeat (first | apply Kd.R_alloc | apply Kd.R_drewN | apply Kd.R_drew)); exact HO177.out) hb)
                have n1_ := Aside0.mk (blk_below (g := gb174) (o := .cells #[.int .i64 a0_0, .int .i64 a0_1, .int .i64 a0_2] 72 (0, 0)) (by (with_reducible repeat (first | refine blk_drewN ?_ _ | refine blk_drew ?_ | refine blk_alloc ?_ _)); exact BK174.out) hb)
                have n2_ := Aside0.mk (below_step (by repeat (first | (with_reducible first | exact HB.out | apply below_alloc | apply pw_below_drewN | apply below_drew1 | refine below_set ?_ GE174.out) | exact HB.out)) hb)
                have z_HO181 := fun (h0_ : b 10 = true) => (show Kd.R (Kd.int .i64) 3 w16 w.heap.size (fun _ => True) v180 y179 from by first | exact (Kd.R_below (by (with_reducible repeat (first | apply Kd.R_alloc | apply Kd.R_drewN | apply Kd.R_drew)); exact (Q_HO181 h0_)) hb) | exact Kd.R_mono (Kd.R_below (by (with_reducible repeat (first | apply Kd.R_alloc | apply Kd.R_drewN | apply Kd.R_drew)); exact (Q_HO181 h0_)) hb) (fun _ h_ => by first | trivial | exact h_ | exact h_.1))
                clear HO177
                clear BK174
                clear HB
                have HO177 := n0_
                have BK174 := n1_
                have HB := n2_
                clear n0_ n1_ n2_
                (try clear hb)
                (try clear hb2)
                (try clear hk)
                (try clear hi)
                refine hK.out _ _ ⟨.slice Ao15 y175.length co15, v180, (by rw [ha.out]; exact putSel_upk 3 hb_ rfl rfl rfl), (by (with_reducible repeat (first | refine blk_drewN ?_ _ | refine blk_drew ?_ | refine blk_alloc ?_ _)); exact BK174.out), (by repeat (first | (with_reducible first | exact HB.out | apply below_alloc | apply pw_below_drewN | apply below_drew1 | refine below_set ?_ GE174.out) | exact HB.out)), fun _ => (by (with_reducible repeat (first | apply Kd.R_alloc | apply Kd.R_drewN | apply Kd.R_drew)); exact HO177.out), z_HO181⟩
              refine steps_cons ?_ ?_
              · rintro b a w' ⟨v176, v180, ha, Q_BK174, Q_HB, Q_HO177, Q_HO181⟩ hb_ hon hoff
                refine ⟨_, rfl, fun K hK => ?_⟩
                have e11 : a.tmps[11]? = some (.string ((⟨#[114]⟩ : ByteArray) ++ (⟨#[42]⟩ : ByteArray))) := by rw [ha]; exact putSel_on (e := (1, 11, .string ((⟨#[114]⟩ : ByteArray) ++ (⟨#[42]⟩ : ByteArray)))) 0 rfl rfl (hon 1 (by kernel_rfl)) rfl
                have e15 : a.tmps[15]? = some (.string t178) := by rw [ha]; exact putSel_on (e := (5, 15, .string t178)) 3 rfl rfl (hon 5 (by kernel_rfl)) rfl
                replace ha := Aside0.mk ha
                have BK174 := Aside0.mk Q_BK174
                have HB := Aside0.mk Q_HB
                have HO177 := Aside0.mk (Q_HO177 (hon 4 (by kernel_rfl)))
                refine value_ (w1 := w') (v := .string (((⟨#[114]⟩ : ByteArray) ++ (⟨#[42]⟩ : ByteArray)) ++ t178)) (by rfl) rfl ?_ ?_
                · go_simp
                  (try simp only [i64_w])
                  try rfl
                  all_goals (try omega)
                refine hK.out _ _ ⟨v176, v180, (by rw [ha.out]; exact putSel_upk 4 hb_ rfl rfl rfl), Q_BK174, Q_HB, Q_HO177, Q_HO181⟩
              refine steps_cons ?_ ?_
              · rintro b a w' ⟨v176, v180, ha, Q_BK174, Q_HB, Q_HO177, Q_HO181⟩ hb_ hon hoff
                refine ⟨_, rfl, fun K hK => ?_⟩
                have e16 : a.tmps[16]? = some (.string (((⟨#[114]⟩ : ByteArray) ++ (⟨#[42]⟩ : ByteArray)) ++ t178)) := by rw [ha]; exact putSel_on (e := (6, 16, .string (((⟨#[114]⟩ : ByteArray) ++ (⟨#[42]⟩ : ByteArray)) ++ t178))) 4 rfl rfl (hon 6 (by kernel_rfl)) rfl
                replace ha := Aside0.mk ha
                have BK174 := Aside0.mk Q_BK174
                have HB := Aside0.mk Q_HB
                have HO177 := Aside0.mk (Q_HO177 (hon 4 (by kernel_rfl)))
                refine value_ (w1 := w') (v := .string ((((⟨#[114]⟩ : ByteArray) ++ (⟨#[42]⟩ : ByteArray)) ++ t178) ++ (⟨#[47]⟩ : ByteArray))) (by rfl) rfl ?_ ?_
                · go_simp
                  (try simp only [i64_w])
                  try rfl
                  all_goals (try omega)
                refine hK.out _ _ ⟨v176, v180, (by rw [ha.out]; exact putSel_upk 5 hb_ rfl rfl rfl), Q_BK174, Q_HB, Q_HO177, Q_HO181⟩
              refine steps_cons ?_ ?_
              · rintro b a w' ⟨v176, v180, ha, Q_BK174, Q_HB, Q_HO177, Q_HO181⟩ hb_ hon hoff
                refine ⟨_, rfl, fun K hK => ?_⟩
                have e18 : a.tmps[18]? = some (.pointer (some ⟨gb174, 2, none⟩)) := by rw [ha]; exact (putSel_off rfl).trans rfl
                replace ha := Aside0.mk ha
                have BK174 := Aside0.mk Q_BK174
                have HB := Aside0.mk Q_HB
                have hc0_ : w'.cell? ⟨gb174, 0, none⟩ = some (.int .i64 a0_0) := (blk_cell BK174.out 0).trans rfl
                have hc1_ : w'.cell? ⟨gb174, 1, none⟩ = some (.int .i64 a0_1) := (blk_cell BK174.out 1).trans rfl
                have hc2_ : w'.cell? ⟨gb174, 2, none⟩ = some (.int .i64 a0_2) := (blk_cell BK174.out 2).trans rfl
                refine value_ (w1 := w') (v := .int .i64 a0_2) (by rfl) rfl ?_ ?_
                · go_simp
                  (try simp only [i64_w])
                  try rfl
                  all_goals (try omega)
                refine hK.out _ _ ⟨v176, v180, (by rw [ha.out]; exact putSel_upk 6 hb_ rfl rfl rfl), Q_BK174, Q_HB, Q_HO177, fun h0_ => absurd ((hoff 10 (by kernel_rfl)).symm.trans h0_) (by decide)⟩
              refine steps_cons ?_ ?_
              · rintro b a w' ⟨v176, v180, ha, Q_BK174, Q_HB, Q_HO177, Q_HO181⟩ hb_ hon hoff
                refine ⟨_, rfl, fun K hK => ?_⟩
                have e19 : a.tmps[19]? = some (.int .i64 a0_2) := by rw [ha]; exact putSel_on (e := (9, 19, .int .i64 a0_2)) 6 rfl rfl (hon 9 (by kernel_rfl)) rfl
                replace ha := Aside0.mk ha
                have BK174 := Aside0.mk Q_BK174
                have HB := Aside0.mk Q_HB
                refine Kd.R_lit_step (Kd.int .i64) _ 3 ?hg (N := 20) ?hd (xs := ([a0_2] : List Int)) (inner := [.int .i64 a0_2]) (ok := fun _ => True) (okp := fun _ => True) ?hr ?hp (fun _ hk => hk) trivial (Below.refl _ _) (Nat.le_refl _) (by simp) ?_; (case hd => rfl); (case hg => rfl); (case hr => first | (go_simp; done) | (go_simp; rfl)); (case hp => exact (Reps.one (show Kd.M (Kd.int .i64) _ _ _ a0_2 [.int .i64 a0_2] from rfl) (Reps.none _ _)))
                intro v180 w12 ho13 hb hg_ hnew_
                clear hg_ hnew_
                (first | rw [← Ny179.out] at ho13 | (simp only [Int.reduceToNat] at ho13; rw [← Ny179.out] at ho13))
                have n0_ := Aside0.mk (Kd.R_lower ho13 (below_size (by repeat (first | (with_reducible first | exact HB.out | apply below_alloc | apply pw_below_drewN | apply below_drew1 | refine below_set ?_ GE174.out) | exact HB.out))))
                have n1_ := Aside0.mk (blk_below (g := gb174) (o := .cells #[.int .i64 a0_0, .int .i64 a0_1, .int .i64 a0_2] 72 (0, 0)) (by (with_reducible repeat (first | refine blk_drewN ?_ _ | refine blk_drew ?_ | refine blk_alloc ?_ _)); exact BK174.out) hb)
                have n2_ := Aside0.mk (below_step (by repeat (first | (with_reducible first | exact HB.out | apply below_alloc | apply pw_below_drewN | apply below_drew1 | refine below_set ?_ GE174.out) | exact HB.out)) hb)
                have z_HO177 := fun (h0_ : b 4 = true) => (show Kd.R (Kd.int .i64) 3 w12 w.heap.size (fun _ => True) v176 y175 from by first | exact (Kd.R_elder' (by (with_reducible repeat (first | apply Kd.R_alloc | apply Kd.R_drewN | apply Kd.R_drew)); exact (Q_HO177 h0_)) (Kd.R_base ho13) hb) | exact Kd.R_mono (Kd.R_elder' (by (with_reducible repeat (first | apply Kd.R_alloc | apply Kd.R_drewN | apply Kd.R_drew)); exact (Q_HO177 h0_)) (Kd.R_base ho13) hb) (fun _ h_ => by first | trivial | exact h_ | exact h_.1))
                clear BK174
                clear HB
                have HO181 := n0_
                have BK174 := n1_
                have HB := n2_
                clear n0_ n1_ n2_
                clear hb ho13
                refine hK.out _ _ ⟨v176, v180, (by rw [ha.out]; exact putSel_upk 7 hb_ rfl rfl rfl), (by (with_reducible repeat (first | refine blk_drewN ?_ _ | refine blk_drew ?_ | refine blk_alloc ?_ _)); exact BK174.out), (by repeat (first | (with_reducible first | exact HB.out | apply below_alloc | apply pw_below_drewN | apply below_drew1 | refine below_set ?_ GE174.out) | exact HB.out)), z_HO177, fun _ => (by (with_reducible repeat (first | apply Kd.R_alloc | apply Kd.R_drewN | apply Kd.R_drew)); exact HO181.out)⟩
              refine steps_cons ?_ ?_
              · rintro b a w' ⟨v176, v180, ha, Q_BK174, Q_HB, Q_HO177, Q_HO181⟩ hb_ hon hoff
                refine ⟨_, rfl, fun K hK => ?_⟩
                have e20 : a.tmps[20]? = some (v180) := by rw [ha]; exact putSel_on (e := (10, 20, v180)) 7 rfl rfl (hon 10 (by kernel_rfl)) rfl
                replace ha := Aside0.mk ha
                have BK174 := Aside0.mk Q_BK174
                have HB := Aside0.mk Q_HB
                have HO177 := Aside0.mk (Q_HO177 (hon 4 (by kernel_rfl)))
                have HO181 := Aside0.mk (Q_HO181 (hon 10 (by kernel_rfl)))
                obtain ⟨Ao19, co19, eo19⟩ := Kd.R_slice HO181.out
                (first | subst eo19 | (injection eo19 with f1_ f2_ f3_; have f4_ := f1_.symm; have f5_ := f3_.symm; clear f1_ f2_ f3_; subst f4_; subst f5_))
                refine goes_ Tryd.func37 (by kernel_rfl) rfl #[.slice Ao19 y179.length co19] (by rfl) rfl rfl (by first | (simp only [List.map_toArray, List.map_cons, List.map_nil, Act.eval, Array.getD_eq_getD_getElem?, Option.getD_some, e20]; done) | (simp only [List.map_toArray, List.map_cons, List.map_nil, Act.eval, Array.getD_eq_getD_getElem?, Option.getD_some, e20]; rfl)) ?_
                with_reducible refine (impl_words.calls k _ _ y179 t182 _ ?side1 ?side2 A7.out).mono ?_
                (case side1 => repeat (first | exact (Kd.R_reads' HO181.out).2.2 | (with_reducible refine Kd.C_alloc ?_ _) | (with_reducible refine Kd.C_drewN ?_ _) | (with_reducible refine Kd.C_drew ?_)))
                (case side2 => exact (Kd.R_reads' HO181.out).2.1)
                rintro e w20 ⟨rfl, hb⟩
                refine ⟨_, rfl, ?_⟩
                have n0_ := Aside0.mk (Kd.R_below (by (with_reducible repeat (first | apply Kd.R_alloc | apply Kd.R_drewN | apply Kd.R_drew)); exact HO177.out) hb)
                have n1_ := Aside0.mk (Kd.R_below (by (with_reducible repeat (first | apply Kd.R_alloc | apply Kd.R_drewN | apply Kd.R_drew)); exact HO181.out) hb)
                have n2_ := Aside0.mk (blk_below (g := gb174) (o := .cells #[.int .i64 a0_0, .int .i64 a0_1, .int .i64 a0_2] 72 (0, 0)) (by (with_reducible repeat (first | refine blk_drewN ?_ _ | refine blk_drew ?_ | refine blk_alloc ?_ _)); exact BK174.out) hb)
                have n3_ := Aside0.mk (below_step (by repeat (first | (with_reducible first | exact HB.out | apply below_alloc | apply pw_below_drewN | apply below_drew1 | refine below_set ?_ GE174.out) | exact HB.out)) hb)
                clear HO177
                clear HO181
                clear BK174
                clear HB
                have HO177 := n0_
                have HO181 := n1_
                have BK174 := n2_
                have HB := n3_
                clear n0_ n1_ n2_ n3_
                (try clear hb)
                (try clear hb2)
                (try clear hk)
                (try clear hi)
                refine hK.out _ _ ⟨v176, .slice Ao19 y179.length co19, (by rw [ha.out]; exact putSel_upk 8 hb_ rfl rfl rfl), (by (with_reducible repeat (first | refine blk_drewN ?_ _ | refine blk_drew ?_ | refine blk_alloc ?_ _)); exact BK174.out), (by repeat (first | (with_reducible first | exact HB.out | apply below_alloc | apply pw_below_drewN | apply below_drew1 | refine below_set ?_ GE174.out) | exact HB.out)), fun _ => (by (with_reducible repeat (first | apply Kd.R_alloc | apply Kd.R_drewN | apply Kd.R_drew)); exact HO177.out), fun _ => (by (with_reducible repeat (first | apply Kd.R_alloc | apply Kd.R_drewN | apply Kd.R_drew)); exact HO181.out)⟩
              refine steps_cons ?_ ?_
              · rintro b a w' ⟨v176, v180, ha, Q_BK174, Q_HB, Q_HO177, Q_HO181⟩ hb_ hon hoff
                refine ⟨_, rfl, fun K hK => ?_⟩
                have e17 : a.tmps[17]? = some (.string ((((⟨#[114]⟩ : ByteArray) ++ (⟨#[42]⟩ : ByteArray)) ++ t178) ++ (⟨#[47]⟩ : ByteArray))) := by rw [ha]; exact putSel_on (e := (7, 17, .string ((((⟨#[114]⟩ : ByteArray) ++ (⟨#[42]⟩ : ByteArray)) ++ t178) ++ (⟨#[47]⟩ : ByteArray)))) 5 rfl rfl (hon 7 (by kernel_rfl)) rfl
                have e21 : a.tmps[21]? = some (.string t182) := by rw [ha]; exact putSel_on (e := (11, 21, .string t182)) 8 rfl rfl (hon 11 (by kernel_rfl)) rfl
                replace ha := Aside0.mk ha
                have BK174 := Aside0.mk Q_BK174
                have HB := Aside0.mk Q_HB
                have HO177 := Aside0.mk (Q_HO177 (hon 4 (by kernel_rfl)))
                have HO181 := Aside0.mk (Q_HO181 (hon 10 (by kernel_rfl)))
                refine value_ (w1 := w') (v := .string (((((⟨#[114]⟩ : ByteArray) ++ (⟨#[42]⟩ : ByteArray)) ++ t178) ++ (⟨#[47]⟩ : ByteArray)) ++ t182)) (by rfl) rfl ?_ ?_
                · go_simp
                  (try simp only [i64_w])
                  try rfl
                  all_goals (try omega)
                refine hK.out _ _ ⟨v176, v180, (by rw [ha.out]; exact putSel_upk 9 hb_ rfl rfl rfl), Q_BK174, Q_HB, Q_HO177, Q_HO181⟩
              refine steps_cons ?_ ?_
              · rintro b a w' ⟨v176, v180, ha, Q_BK174, Q_HB, Q_HO177, Q_HO181⟩ hb_ hon hoff
                refine ⟨_, rfl, fun K hK => ?_⟩
                have e22 : a.tmps[22]? = some (.string (((((⟨#[114]⟩ : ByteArray) ++ (⟨#[42]⟩ : ByteArray)) ++ t178) ++ (⟨#[47]⟩ : ByteArray)) ++ t182)) := by rw [ha]; exact putSel_on (e := (12, 22, .string (((((⟨#[114]⟩ : ByteArray) ++ (⟨#[42]⟩ : ByteArray)) ++ t178) ++ (⟨#[47]⟩ : ByteArray)) ++ t182))) 9 rfl rfl (hon 12 (by kernel_rfl)) rfl
                replace ha := Aside0.mk ha
                have BK174 := Aside0.mk Q_BK174
                have HB := Aside0.mk Q_HB
                have HO177 := Aside0.mk (Q_HO177 (hon 4 (by kernel_rfl)))
                have HO181 := Aside0.mk (Q_HO181 (hon 10 (by kernel_rfl)))
                refine value_ (w1 := w') (v := .string (((((⟨#[114]⟩ : ByteArray) ++ (⟨#[42]⟩ : ByteArray)) ++ t178) ++ (⟨#[47]⟩ : ByteArray)) ++ t182)) (by rfl) rfl ?_ ?_
                · go_simp
                  (try simp only [i64_w])
                  try rfl
                  all_goals (try omega)
                refine hK.out _ _ ⟨v176, v180, (by rw [ha.out]; exact putSel_upk 10 hb_ rfl rfl rfl), Q_BK174, Q_HB, Q_HO177, Q_HO181⟩
              exact steps_nil
            rintro b a w20 hall ⟨v176, v180, ha, Q_BK174, Q_HB, Q_HO177, Q_HO181⟩
            clear BK174 HB
            have hb1_ := hall 1 (by kernel_rfl)
            have hb3_ := hall 3 (by kernel_rfl)
            have hb4_ := hall 4 (by kernel_rfl)
            have hb5_ := hall 5 (by kernel_rfl)
            have hb6_ := hall 6 (by kernel_rfl)
            have hb7_ := hall 7 (by kernel_rfl)
            have hb9_ := hall 9 (by kernel_rfl)
            have hb10_ := hall 10 (by kernel_rfl)
            have hb11_ := hall 11 (by kernel_rfl)
            have hb12_ := hall 12 (by kernel_rfl)
            have hb13_ := hall 13 (by kernel_rfl)
            subst ha
            simp only [putSel, hb1_, hb3_, hb4_, hb5_, hb6_, hb7_, hb9_, hb10_, hb11_, hb12_, hb13_, if_true, Act.put, List.setIfInBounds_toArray, List.set_cons_zero, List.set_cons_succ]
            have BK174 := Aside0.mk Q_BK174
            clear Q_BK174
            have HB := Aside0.mk Q_HB
            clear Q_HB
            have HO177 := Aside0.mk (Q_HO177 hb4_)
            clear Q_HO177
            have HO181 := Aside0.mk (Q_HO181 hb10_)
            clear Q_HO181
            clear hall hb1_ hb3_ hb4_ hb5_ hb6_ hb7_ hb9_ hb10_ hb11_ hb12_ hb13_
            try go_wp2
            go_ret
            exact ⟨by first | rfl | (simp [errW_none, errW_some] <;> rfl) | (simp [*, errW_none, errW_some] <;> rfl), by repeat (first | (with_reducible first | exact HB.out | apply below_alloc | apply pw_below_drewN | apply below_drew1 | refine below_set ?_ GE174.out) | exact HB.out)⟩
          · rw [if_neg c8] at H
            exact absurd H (by simp)
        · rw [if_neg c6] at H
          exact absurd H (by simp)
      · rw [if_neg c5] at H
        exact absurd H (by simp)
    · rw [if_neg c3] at H
      exact absurd H (by simp)
  · rw [if_neg c2] at H
    have c2b0 : (a0_0 == 0) = false := beq_eq_false_iff_ne.mpr c2
    have c2b1 : (a0_0 != 0) = true := bne_iff_ne.mpr c2
    replace H := Option.bind_eq_some_iff.mp H
    obtain ⟨t183, A210, H⟩ := H
    replace H : (if t183.size + 1 ≤ 9223372036854775807 then ((impl_words.f k (([a0_1] : List Int))).bind fun t187 => (if (t183 ++ (⟨#[42]⟩ : ByteArray)).size + t187.size ≤ 9223372036854775807 then (if ((t183 ++ (⟨#[42]⟩ : ByteArray)) ++ t187).size + 1 ≤ 9223372036854775807 then ((impl_words.f k (([a0_2] : List Int))).bind fun t191 => (if (((t183 ++ (⟨#[42]⟩ : ByteArray)) ++ t187) ++ (⟨#[47]⟩ : ByteArray)).size + t191.size ≤ 9223372036854775807 then (some ((((t183 ++ (⟨#[42]⟩ : ByteArray)) ++ t187) ++ (⟨#[47]⟩ : ByteArray)) ++ t191)) else (none))) else (none)) else (none))) else (none)) = some r := H
    have A21 := Aside0.mk A210
    clear A210
    by_cases c22 : t183.size + 1 ≤ 9223372036854775807
    · rw [if_pos c22] at H
      have c22b0 := eq_true c22
      have c22b1 : decide (t183.size + 1 ≤ 9223372036854775807) = true := decide_eq_true c22
      try have c22b2 : (9223372036854775807 < t183.size + 1) = False := eq_false (Nat.not_lt.2 c22)
      obtain ⟨y184, hy184⟩ : ∃ y_ : List Int, y_ = (([a0_1] : List Int)) := ⟨_, rfl⟩
      replace H : ((impl_words.f k y184).bind fun t187 => (if (t183 ++ (⟨#[42]⟩ : ByteArray)).size + t187.size ≤ 9223372036854775807 then (if ((t183 ++ (⟨#[42]⟩ : ByteArray)) ++ t187).size + 1 ≤ 9223372036854775807 then ((impl_words.f k (([a0_2] : List Int))).bind fun t191 => (if (((t183 ++ (⟨#[42]⟩ : ByteArray)) ++ t187) ++ (⟨#[47]⟩ : ByteArray)).size + t191.size ≤ 9223372036854775807 then (some ((((t183 ++ (⟨#[42]⟩ : ByteArray)) ++ t187) ++ (⟨#[47]⟩ : ByteArray)) ++ t191)) else (none))) else (none)) else (none))) = some r := by first | (rw [hy184]; with_reducible exact H) | (have H2_ := (Option.bind_some _ _).symm.trans H; rw [hy184]; with_reducible exact H2_) | (have H2_ := (Option.bind_some _ _).symm.trans H; with_reducible exact H2_) | with_reducible exact H | (rw [hy184]; exact H) | exact H
      have Ny184 := Aside0.mk hy184
      clear hy184
      replace H := Option.bind_eq_some_iff.mp H
      obtain ⟨t187, A230, H⟩ := H
      replace H : (if (t183 ++ (⟨#[42]⟩ : ByteArray)).size + t187.size ≤ 9223372036854775807 then (if ((t183 ++ (⟨#[42]⟩ : ByteArray)) ++ t187).size + 1 ≤ 9223372036854775807 then ((impl_words.f k (([a0_2] : List Int))).bind fun t191 => (if (((t183 ++ (⟨#[42]⟩ : ByteArray)) ++ t187) ++ (⟨#[47]⟩ : ByteArray)).size + t191.size ≤ 9223372036854775807 then (some ((((t183 ++ (⟨#[42]⟩ : ByteArray)) ++ t187) ++ (⟨#[47]⟩ : ByteArray)) ++ t191)) else (none))) else (none)) else (none)) = some r := H
      have A23 := Aside0.mk A230
      clear A230
      by_cases c24 : (t183 ++ (⟨#[42]⟩ : ByteArray)).size + t187.size ≤ 9223372036854775807
      · rw [if_pos c24] at H
        have c24b0 := eq_true c24
        have c24b1 : decide ((t183 ++ (⟨#[42]⟩ : ByteArray)).size + t187.size ≤ 9223372036854775807) = true := decide_eq_true c24
        try have c24b2 : (9223372036854775807 < (t183 ++ (⟨#[42]⟩ : ByteArray)).size + t187.size) = False := eq_false (Nat.not_lt.2 c24)
        have c24s := c24
        try simp only [ByteArray.size_append, show (⟨#[42]⟩ : ByteArray).size = 1 from rfl] at c24s
        have c24s0 := eq_true c24s
        have c24s1 := decide_eq_true c24s
        try have c24s2 := eq_false (Nat.not_lt.2 c24s)
        by_cases c25 : ((t183 ++ (⟨#[42]⟩ : ByteArray)) ++ t187).size + 1 ≤ 9223372036854775807
        · rw [if_pos c25] at H
          have c25b0 := eq_true c25
          have c25b1 : decide (((t183 ++ (⟨#[42]⟩ : ByteArray)) ++ t187).size + 1 ≤ 9223372036854775807) = true := decide_eq_true c25
          try have c25b2 : (9223372036854775807 < ((t183 ++ (⟨#[42]⟩ : ByteArray)) ++ t187).size + 1) = False := eq_false (Nat.not_lt.2 c25)
          have c25s := c25
          try simp only [ByteArray.size_append, show (⟨#[42]⟩ : ByteArray).size = 1 from rfl] at c25s
          have c25s0 := eq_true c25s
          have c25s1 := decide_eq_true c25s
          try have c25s2 := eq_false (Nat.not_lt.2 c25s)
          obtain ⟨y188, hy188⟩ : ∃ y_ : List Int, y_ = (([a0_2] : List Int)) := ⟨_, rfl⟩
          replace H : ((impl_words.f k y188).bind fun t191 => (if (((t183 ++ (⟨#[42]⟩ : ByteArray)) ++ t187) ++ (⟨#[47]⟩ : ByteArray)).size + t191.size ≤ 9223372036854775807 then (some ((((t183 ++ (⟨#[42]⟩ : ByteArray)) ++ t187) ++ (⟨#[47]⟩ : ByteArray)) ++ t191)) else (none))) = some r := by first | (rw [hy188]; with_reducible exact H) | (have H2_ := (Option.bind_some _ _).symm.trans H; rw [hy188]; with_reducible exact H2_) | (have H2_ := (Option.bind_some _ _).symm.trans H; with_reducible exact H2_) | with_reducible exact H | (rw [hy188]; exact H) | exact H
          have Ny188 := Aside0.mk hy188
          clear hy188
          replace H := Option.bind_eq_some_iff.mp H
          obtain ⟨t191, A260, H⟩ := H
          replace H : (if (((t183 ++ (⟨#[42]⟩ : ByteArray)) ++ t187) ++ (⟨#[47]⟩ : ByteArray)).size + t191.size ≤ 9223372036854775807 then (some ((((t183 ++ (⟨#[42]⟩ : ByteArray)) ++ t187) ++ (⟨#[47]⟩ : ByteArray)) ++ t191)) else (none)) = some r := H
          have A26 := Aside0.mk A260
          clear A260
          by_cases c27 : (((t183 ++ (⟨#[42]⟩ : ByteArray)) ++ t187) ++ (⟨#[47]⟩ : ByteArray)).size + t191.size ≤ 9223372036854775807
          · rw [if_pos c27] at H
            have c27b0 := eq_true c27
            have c27b1 : decide ((((t183 ++ (⟨#[42]⟩ : ByteArray)) ++ t187) ++ (⟨#[47]⟩ : ByteArray)).size + t191.size ≤ 9223372036854775807) = true := decide_eq_true c27
            try have c27b2 : (9223372036854775807 < (((t183 ++ (⟨#[42]⟩ : ByteArray)) ++ t187) ++ (⟨#[47]⟩ : ByteArray)).size + t191.size) = False := eq_false (Nat.not_lt.2 c27)
            have c27s := c27
            try simp only [ByteArray.size_append, show (⟨#[42]⟩ : ByteArray).size = 1 from rfl, show (⟨#[47]⟩ : ByteArray).size = 1 from rfl] at c27s
            have c27s0 := eq_true c27s
            have c27s1 := decide_eq_true c27s
            try have c27s2 := eq_false (Nat.not_lt.2 c27s)
            obtain rfl := Option.some.inj H
            go_enter Tryd.func44, Tryd.ntmps44
            try go_wp2_with (first | ((with_reducible refine gate_dst (N := 1) rfl ?_); refine box_event ?hg (N := 1) ?hd (cs := #[.int .i64 a0_0, .int .i64 a0_1, .int .i64 a0_2]) (t := 72) ?hr ?_; (case hd => rfl); (case hg => rfl); (case hr => first | (go_simp; done) | (go_simp; rfl)); intro gb174 hg w28 hbox hb; have n0_ := Aside0.mk (below_step (by repeat (first | (with_reducible first | exact HB.out | apply below_alloc | apply pw_below_drewN | apply below_drew1) | exact HB.out)) hb); have n1_ := Aside0.mk (hbox); have n2_ := Aside0.mk ((by rw [hg]; exact (below_size (by repeat (first | (with_reducible first | exact HB.out | apply below_alloc | apply pw_below_drewN | apply below_drew1) | exact HB.out))) : w.heap.size ≤ gb174)); have n3_ := Aside0.mk ((by rw [hg]; exact (below_size (by repeat (first | (with_reducible first | exact HB.out | apply below_alloc | apply pw_below_drewN | apply below_drew1) | exact HB.out))) : w.heap.size ≤ gb174)); clear HB; have HB := n0_; have BK174 := n1_; have GW174 := n2_; have GE174 := n3_; clear n0_ n1_ n2_ n3_; clear hb hbox hg; have hcz29_0 : w28.cell? ⟨gb174, 0, none⟩ = some (.int .i64 a0_0) := (blk_cell BK174.out 0).trans rfl; have hcz29_1 : w28.cell? ⟨gb174, 1, none⟩ = some (.int .i64 a0_1) := (blk_cell BK174.out 1).trans rfl; have hcz29_2 : w28.cell? ⟨gb174, 2, none⟩ = some (.int .i64 a0_2) := (blk_cell BK174.out 2).trans rfl; have hfz29_0 := blk_frozen BK174.out 0; have hfz29_1 := blk_frozen BK174.out 1; have hfz29_2 := blk_frozen BK174.out 2) | ((with_reducible refine gate_callee (f := 36) rfl ?_); refine goesL_ (some 9) rfl rfl Tryd.func36 (by kernel_rfl) rfl #[.int .i64 a0_0] rfl (by (try simp only [List.map_toArray, List.map_cons, List.map_nil]); first | done | rfl | (simp only [List.length_drop, List.length_take]; rfl)) ?_; (with_reducible refine (impl_pitchName.calls a0_0 t183 _ A21.out).mono ?_); rintro e w30 ⟨rfl, hb⟩; refine ⟨_, rfl, ?_⟩; have n0_ := Aside0.mk (blk_below (g := gb174) (o := .cells #[.int .i64 a0_0, .int .i64 a0_1, .int .i64 a0_2] 72 (0, 0)) (by (with_reducible repeat (first | refine blk_drewN ?_ _ | refine blk_drew ?_ | refine blk_alloc ?_ _)); exact BK174.out) hb); have n1_ := Aside0.mk (below_step (by repeat (first | (with_reducible first | exact HB.out | apply below_alloc | apply pw_below_drewN | apply below_drew1 | refine below_set ?_ GE174.out) | exact HB.out)) hb); clear BK174; clear HB; have BK174 := n0_; have HB := n1_; clear n0_ n1_; (try clear hb); (try clear hb2); (try clear hk); (try clear hi)))
            have n0_ := Aside0.mk (blk_drew BK174.out)
            have n1_ := Aside0.mk (below_drew1 HB.out)
            clear BK174
            clear HB
            have BK174 := n0_
            have HB := n1_
            clear n0_ n1_
            refine start_ (n := 14) (S := fun w' => True) (ds := []) #[false, false, false, false, false, false, false, false, false, false, false, false, false, false] (by kernel_rfl) rfl rfl trivial (fun hHeld => ?_); refine with_tabW impl_eventText.tab4 impl_eventText.bits4 (fun HT_ HW_ => ?_)
            generalize w30.drew = w31 at BK174 HB hHeld ⊢
            refine pure_ (i := 0) (N := some 10) (v := ?_) (a' := ?_) #[true, false, false, false, false, false, false, false, false, false, false, false, false, false] rfl rfl (any_of HT_.out (by kernel_rfl)) (fun _ _ _ h => h) (Or.inl ⟨by rfl, ?_⟩) ?_ ?_
            rotate_left
            · intro w'
              go_simp
              with_reducible rfl
            rotate_left
            · simp only [Act.put, List.setIfInBounds_toArray, List.set_cons_zero, List.set_cons_succ, i64_w, i32_w]
              rfl
            refine pure_ (i := 2) (N := some 12) (v := ?_) (a' := ?_) #[true, false, true, false, false, false, false, false, false, false, false, false, false, false] rfl rfl (any_of HT_.out (by kernel_rfl)) (fun _ _ _ h => h) (Or.inl ⟨by rfl, ?_⟩) ?_ ?_
            rotate_left
            · intro w'
              go_simp
              with_reducible rfl
            rotate_left
            · simp only [Act.put, List.setIfInBounds_toArray, List.set_cons_zero, List.set_cons_succ, i64_w, i32_w]
              rfl
            refine pure_ (i := 8) (N := some 18) (v := ?_) (a' := ?_) #[true, false, true, false, false, false, false, false, true, false, false, false, false, false] rfl rfl (any_of HT_.out (by kernel_rfl)) (fun _ _ _ h => h) (Or.inl ⟨by rfl, ?_⟩) ?_ ?_
            rotate_left
            · intro w'
              go_simp
              with_reducible rfl
            rotate_left
            · simp only [Act.put, List.setIfInBounds_toArray, List.set_cons_zero, List.set_cons_succ, i64_w, i32_w]
              rfl
            refine inv_at [1, 3, 4, 5, 6, 7, 9, 10, 11, 12, 13] (fun a0_ b a w' => ∃ (v185 : Value) (v189 : Value), a = putSel a0_ b [(1, 11, .string (t183 ++ (⟨#[42]⟩ : ByteArray))), (3, 13, .int .i64 a0_1), (4, 14, v185), (5, 15, .string t187), (6, 16, .string ((t183 ++ (⟨#[42]⟩ : ByteArray)) ++ t187)), (7, 17, .string (((t183 ++ (⟨#[42]⟩ : ByteArray)) ++ t187) ++ (⟨#[47]⟩ : ByteArray))), (9, 19, .int .i64 a0_2), (10, 20, v189), (11, 21, .string t191), (12, 22, .string ((((t183 ++ (⟨#[42]⟩ : ByteArray)) ++ t187) ++ (⟨#[47]⟩ : ByteArray)) ++ t191)), (13, 2, .string ((((t183 ++ (⟨#[42]⟩ : ByteArray)) ++ t187) ++ (⟨#[47]⟩ : ByteArray)) ++ t191))] ∧ (w'.heap[gb174]? = some (.cells #[.int .i64 a0_0, .int .i64 a0_1, .int .i64 a0_2] 72 (0, 0))) ∧ (Below w.heap.size w w') ∧ (b 4 = true → Kd.R (Kd.int .i64) 3 w' w.heap.size (fun _ => True) v185 y184) ∧ (b 10 = true → Kd.R (Kd.int .i64) 3 w' w.heap.size (fun _ => True) v189 y188)) HT_.out HW_.out (by kernel_rfl) (by kernel_rfl) ?_ ?_ ?_
            · exact ⟨.bool false, .bool false, by simp only [putSel, Bool.false_eq_true, if_false], BK174.out, HB.out, fun h_ => absurd h_ (by decide), fun h_ => absurd h_ (by decide)⟩
            · skip
              clear BK174 HB
              refine steps_cons ?_ ?_
              · rintro b a w' ⟨v185, v189, ha, Q_BK174, Q_HB, Q_HO186, Q_HO190⟩ hb_ hon hoff
                refine ⟨_, rfl, fun K hK => ?_⟩
                have e10 : a.tmps[10]? = some (.string t183) := by rw [ha]; exact (putSel_off rfl).trans rfl
                replace ha := Aside0.mk ha
                have BK174 := Aside0.mk Q_BK174
                have HB := Aside0.mk Q_HB
                refine value_ (w1 := w') (v := .string (t183 ++ (⟨#[42]⟩ : ByteArray))) (by rfl) rfl ?_ ?_
                · go_simp
                  (try simp only [i64_w])
                  try rfl
                  all_goals (try omega)
                refine hK.out _ _ ⟨v185, v189, (by rw [ha.out]; exact putSel_upk 0 hb_ rfl rfl rfl), Q_BK174, Q_HB, Q_HO186, Q_HO190⟩
              refine steps_cons ?_ ?_
              · rintro b a w' ⟨v185, v189, ha, Q_BK174, Q_HB, Q_HO186, Q_HO190⟩ hb_ hon hoff
                refine ⟨_, rfl, fun K hK => ?_⟩
                have e12 : a.tmps[12]? = some (.pointer (some ⟨gb174, 1, none⟩)) := by rw [ha]; exact (putSel_off rfl).trans rfl
                replace ha := Aside0.mk ha
                have BK174 := Aside0.mk Q_BK174
                have HB := Aside0.mk Q_HB
                have hc0_ : w'.cell? ⟨gb174, 0, none⟩ = some (.int .i64 a0_0) := (blk_cell BK174.out 0).trans rfl
                have hc1_ : w'.cell? ⟨gb174, 1, none⟩ = some (.int .i64 a0_1) := (blk_cell BK174.out 1).trans rfl
                have hc2_ : w'.cell? ⟨gb174, 2, none⟩ = some (.int .i64 a0_2) := (blk_cell BK174.out 2).trans rfl
                refine value_ (w1 := w') (v := .int .i64 a0_1) (by rfl) rfl ?_ ?_
                · go_simp
                  (try simp only [i64_w])
                  try rfl
                  all_goals (try omega)
                refine hK.out _ _ ⟨v185, v189, (by rw [ha.out]; exact putSel_upk 1 hb_ rfl rfl rfl), Q_BK174, Q_HB, fun h0_ => absurd ((hoff 4 (by kernel_rfl)).symm.trans h0_) (by decide), Q_HO190⟩
              refine steps_cons ?_ ?_
              · rintro b a w' ⟨v185, v189, ha, Q_BK174, Q_HB, Q_HO186, Q_HO190⟩ hb_ hon hoff
                refine ⟨_, rfl, fun K hK => ?_⟩
                have e13 : a.tmps[13]? = some (.int .i64 a0_1) := by rw [ha]; exact putSel_on (e := (3, 13, .int .i64 a0_1)) 1 rfl rfl (hon 3 (by kernel_rfl)) rfl
                replace ha := Aside0.mk ha
                have BK174 := Aside0.mk Q_BK174
                have HB := Aside0.mk Q_HB
                refine Kd.R_lit_step (Kd.int .i64) _ 3 ?hg (N := 14) ?hd (xs := ([a0_1] : List Int)) (inner := [.int .i64 a0_1]) (ok := fun _ => True) (okp := fun _ => True) ?hr ?hp (fun _ hk => hk) trivial (Below.refl _ _) (Nat.le_refl _) (by simp) ?_; (case hd => rfl); (case hg => rfl); (case hr => first | (go_simp; done) | (go_simp; rfl)); (case hp => exact (Reps.one (show Kd.M (Kd.int .i64) _ _ _ a0_1 [.int .i64 a0_1] from rfl) (Reps.none _ _)))
                intro v185 w32 ho33 hb hg_ hnew_
                clear hg_ hnew_
                (first | rw [← Ny184.out] at ho33 | (simp only [Int.reduceToNat] at ho33; rw [← Ny184.out] at ho33))
                have n0_ := Aside0.mk (Kd.R_lower ho33 (below_size (by repeat (first | (with_reducible first | exact HB.out | apply below_alloc | apply pw_below_drewN | apply below_drew1 | refine below_set ?_ GE174.out) | exact HB.out))))
                have n1_ := Aside0.mk (blk_below (g := gb174) (o := .cells #[.int .i64 a0_0, .int .i64 a0_1, .int .i64 a0_2] 72 (0, 0)) (by (with_reducible repeat (first | refine blk_drewN ?_ _ | refine blk_drew ?_ | refine blk_alloc ?_ _)); exact BK174.out) hb)
                have n2_ := Aside0.mk (below_step (by repeat (first | (with_reducible first | exact HB.out | apply below_alloc | apply pw_below_drewN | apply below_drew1 | refine below_set ?_ GE174.out) | exact HB.out)) hb)
                have z_HO190 := fun (h0_ : b 10 = true) => (show Kd.R (Kd.int .i64) 3 w32 w.heap.size (fun _ => True) v189 y188 from by first | exact (Kd.R_elder' (by (with_reducible repeat (first | apply Kd.R_alloc | apply Kd.R_drewN | apply Kd.R_drew)); exact (Q_HO190 h0_)) (Kd.R_base ho33) hb) | exact Kd.R_mono (Kd.R_elder' (by (with_reducible repeat (first | apply Kd.R_alloc | apply Kd.R_drewN | apply Kd.R_drew)); exact (Q_HO190 h0_)) (Kd.R_base ho33) hb) (fun _ h_ => by first | trivial | exact h_ | exact h_.1))
                clear BK174
                clear HB
                have HO186 := n0_
                have BK174 := n1_
                have HB := n2_
                clear n0_ n1_ n2_
                clear hb ho33
                refine hK.out _ _ ⟨v185, v189, (by rw [ha.out]; exact putSel_upk 2 hb_ rfl rfl rfl), (by (with_reducible repeat (first | refine blk_drewN ?_ _ | refine blk_drew ?_ | refine blk_alloc ?_ _)); exact BK174.out), (by repeat (first | (with_reducible first | exact HB.out | apply below_alloc | apply pw_below_drewN | apply below_drew1 | refine below_set ?_ GE174.out) | exact HB.out)), fun _ => (by (with_reducible repeat (first | apply Kd.R_alloc | apply Kd.R_drewN | apply Kd.R_drew)); exact HO186.out), z_HO190⟩
              refine steps_cons ?_ ?_
              · rintro b a w' ⟨v185, v189, ha, Q_BK174, Q_HB, Q_HO186, Q_HO190⟩ hb_ hon hoff
                refine ⟨_, rfl, fun K hK => ?_⟩
                have e14 : a.tmps[14]? = some (v185) := by rw [ha]; exact putSel_on (e := (4, 14, v185)) 2 rfl rfl (hon 4 (by kernel_rfl)) rfl
                replace ha := Aside0.mk ha
                have BK174 := Aside0.mk Q_BK174
                have HB := Aside0.mk Q_HB
                have HO186 := Aside0.mk (Q_HO186 (hon 4 (by kernel_rfl)))
                obtain ⟨Ao35, co35, eo35⟩ := Kd.R_slice HO186.out
                (first | subst eo35 | (injection eo35 with f1_ f2_ f3_; have f4_ := f1_.symm; have f5_ := f3_.symm; clear f1_ f2_ f3_; subst f4_; subst f5_))
                refine goes_ Tryd.func37 (by kernel_rfl) rfl #[.slice Ao35 y184.length co35] (by rfl) rfl rfl (by first | (simp only [List.map_toArray, List.map_cons, List.map_nil, Act.eval, Array.getD_eq_getD_getElem?, Option.getD_some, e14]; done) | (simp only [List.map_toArray, List.map_cons, List.map_nil, Act.eval, Array.getD_eq_getD_getElem?, Option.getD_some, e14]; rfl)) ?_
                with_reducible refine (impl_words.calls k _ _ y184 t187 _ ?side1 ?side2 A23.out).mono ?_
                (case side1 => repeat (first | exact (Kd.R_reads' HO186.out).2.2 | (with_reducible refine Kd.C_alloc ?_ _) | (with_reducible refine Kd.C_drewN ?_ _) | (with_reducible refine Kd.C_drew ?_)))
                (case side2 => exact (Kd.R_reads' HO186.out).2.1)
                rintro e w36 ⟨rfl, hb⟩
                refine ⟨_, rfl, ?_⟩
                have n0_ := Aside0.mk (Kd.R_below (by (with_reducible repeat (first | apply Kd.R_alloc | apply Kd.R_drewN | apply Kd.R_drew)); exact HO186.out) hb)
                have n1_ := Aside0.mk (blk_below (g := gb174) (o := .cells #[.int .i64 a0_0, .int .i64 a0_1, .int .i64 a0_2] 72 (0, 0)) (by (with_reducible repeat (first | refine blk_drewN ?_ _ | refine blk_drew ?_ | refine blk_alloc ?_ _)); exact BK174.out) hb)
                have n2_ := Aside0.mk (below_step (by repeat (first | (with_reducible first | exact HB.out | apply below_alloc | apply pw_below_drewN | apply below_drew1 | refine below_set ?_ GE174.out) | exact HB.out)) hb)
                have z_HO190 := fun (h0_ : b 10 = true) => (show Kd.R (Kd.int .i64) 3 w36 w.heap.size (fun _ => True) v189 y188 from by first | exact (Kd.R_below (by (with_reducible repeat (first | apply Kd.R_alloc | apply Kd.R_drewN | apply Kd.R_drew)); exact (Q_HO190 h0_)) hb) | exact Kd.R_mono (Kd.R_below (by (with_reducible repeat (first | apply Kd.R_alloc | apply Kd.R_drewN | apply Kd.R_drew)); exact (Q_HO190 h0_)) hb) (fun _ h_ => by first | trivial | exact h_ | exact h_.1))
                clear HO186
                clear BK174
                clear HB
                have HO186 := n0_
                have BK174 := n1_
                have HB := n2_
                clear n0_ n1_ n2_
                (try clear hb)
                (try clear hb2)
                (try clear hk)
                (try clear hi)
                refine hK.out _ _ ⟨.slice Ao35 y184.length co35, v189, (by rw [ha.out]; exact putSel_upk 3 hb_ rfl rfl rfl), (by (with_reducible repeat (first | refine blk_drewN ?_ _ | refine blk_drew ?_ | refine blk_alloc ?_ _)); exact BK174.out), (by repeat (first | (with_reducible first | exact HB.out | apply below_alloc | apply pw_below_drewN | apply below_drew1 | refine below_set ?_ GE174.out) | exact HB.out)), fun _ => (by (with_reducible repeat (first | apply Kd.R_alloc | apply Kd.R_drewN | apply Kd.R_drew)); exact HO186.out), z_HO190⟩
              refine steps_cons ?_ ?_
              · rintro b a w' ⟨v185, v189, ha, Q_BK174, Q_HB, Q_HO186, Q_HO190⟩ hb_ hon hoff
                refine ⟨_, rfl, fun K hK => ?_⟩
                have e11 : a.tmps[11]? = some (.string (t183 ++ (⟨#[42]⟩ : ByteArray))) := by rw [ha]; exact putSel_on (e := (1, 11, .string (t183 ++ (⟨#[42]⟩ : ByteArray)))) 0 rfl rfl (hon 1 (by kernel_rfl)) rfl
                have e15 : a.tmps[15]? = some (.string t187) := by rw [ha]; exact putSel_on (e := (5, 15, .string t187)) 3 rfl rfl (hon 5 (by kernel_rfl)) rfl
                replace ha := Aside0.mk ha
                have BK174 := Aside0.mk Q_BK174
                have HB := Aside0.mk Q_HB
                have HO186 := Aside0.mk (Q_HO186 (hon 4 (by kernel_rfl)))
                refine value_ (w1 := w') (v := .string ((t183 ++ (⟨#[42]⟩ : ByteArray)) ++ t187)) (by rfl) rfl ?_ ?_
                · go_simp
                  (try simp only [i64_w])
                  try rfl
                  all_goals (try omega)
                refine hK.out _ _ ⟨v185, v189, (by rw [ha.out]; exact putSel_upk 4 hb_ rfl rfl rfl), Q_BK174, Q_HB, Q_HO186, Q_HO190⟩
              refine steps_cons ?_ ?_
              · rintro b a w' ⟨v185, v189, ha, Q_BK174, Q_HB, Q_HO186, Q_HO190⟩ hb_ hon hoff
                refine ⟨_, rfl, fun K hK => ?_⟩
                have e16 : a.tmps[16]? = some (.string ((t183 ++ (⟨#[42]⟩ : ByteArray)) ++ t187)) := by rw [ha]; exact putSel_on (e := (6, 16, .string ((t183 ++ (⟨#[42]⟩ : ByteArray)) ++ t187))) 4 rfl rfl (hon 6 (by kernel_rfl)) rfl
                replace ha := Aside0.mk ha
                have BK174 := Aside0.mk Q_BK174
                have HB := Aside0.mk Q_HB
                have HO186 := Aside0.mk (Q_HO186 (hon 4 (by kernel_rfl)))
                refine value_ (w1 := w') (v := .string (((t183 ++ (⟨#[42]⟩ : ByteArray)) ++ t187) ++ (⟨#[47]⟩ : ByteArray))) (by rfl) rfl ?_ ?_
                · go_simp
                  (try simp only [i64_w])
                  try rfl
                  all_goals (try omega)
                refine hK.out _ _ ⟨v185, v189, (by rw [ha.out]; exact putSel_upk 5 hb_ rfl rfl rfl), Q_BK174, Q_HB, Q_HO186, Q_HO190⟩
              refine steps_cons ?_ ?_
              · rintro b a w' ⟨v185, v189, ha, Q_BK174, Q_HB, Q_HO186, Q_HO190⟩ hb_ hon hoff
                refine ⟨_, rfl, fun K hK => ?_⟩
                have e18 : a.tmps[18]? = some (.pointer (some ⟨gb174, 2, none⟩)) := by rw [ha]; exact (putSel_off rfl).trans rfl
                replace ha := Aside0.mk ha
                have BK174 := Aside0.mk Q_BK174
                have HB := Aside0.mk Q_HB
                have hc0_ : w'.cell? ⟨gb174, 0, none⟩ = some (.int .i64 a0_0) := (blk_cell BK174.out 0).trans rfl
                have hc1_ : w'.cell? ⟨gb174, 1, none⟩ = some (.int .i64 a0_1) := (blk_cell BK174.out 1).trans rfl
                have hc2_ : w'.cell? ⟨gb174, 2, none⟩ = some (.int .i64 a0_2) := (blk_cell BK174.out 2).trans rfl
                refine value_ (w1 := w') (v := .int .i64 a0_2) (by rfl) rfl ?_ ?_
                · go_simp
                  (try simp only [i64_w])
                  try rfl
                  all_goals (try omega)
                refine hK.out _ _ ⟨v185, v189, (by rw [ha.out]; exact putSel_upk 6 hb_ rfl rfl rfl), Q_BK174, Q_HB, Q_HO186, fun h0_ => absurd ((hoff 10 (by kernel_rfl)).symm.trans h0_) (by decide)⟩
              refine steps_cons ?_ ?_
              · rintro b a w' ⟨v185, v189, ha, Q_BK174, Q_HB, Q_HO186, Q_HO190⟩ hb_ hon hoff
                refine ⟨_, rfl, fun K hK => ?_⟩
                have e19 : a.tmps[19]? = some (.int .i64 a0_2) := by rw [ha]; exact putSel_on (e := (9, 19, .int .i64 a0_2)) 6 rfl rfl (hon 9 (by kernel_rfl)) rfl
                replace ha := Aside0.mk ha
                have BK174 := Aside0.mk Q_BK174
                have HB := Aside0.mk Q_HB
                refine Kd.R_lit_step (Kd.int .i64) _ 3 ?hg (N := 20) ?hd (xs := ([a0_2] : List Int)) (inner := [.int .i64 a0_2]) (ok := fun _ => True) (okp := fun _ => True) ?hr ?hp (fun _ hk => hk) trivial (Below.refl _ _) (Nat.le_refl _) (by simp) ?_; (case hd => rfl); (case hg => rfl); (case hr => first | (go_simp; done) | (go_simp; rfl)); (case hp => exact (Reps.one (show Kd.M (Kd.int .i64) _ _ _ a0_2 [.int .i64 a0_2] from rfl) (Reps.none _ _)))
                intro v189 w32 ho33 hb hg_ hnew_
                clear hg_ hnew_
                (first | rw [← Ny188.out] at ho33 | (simp only [Int.reduceToNat] at ho33; rw [← Ny188.out] at ho33))
                have n0_ := Aside0.mk (Kd.R_lower ho33 (below_size (by repeat (first | (with_reducible first | exact HB.out | apply below_alloc | apply pw_below_drewN | apply below_drew1 | refine below_set ?_ GE174.out) | exact HB.out))))
                have n1_ := Aside0.mk (blk_below (g := gb174) (o := .cells #[.int .i64 a0_0, .int .i64 a0_1, .int .i64 a0_2] 72 (0, 0)) (by (with_reducible repeat (first | refine blk_drewN ?_ _ | refine blk_drew ?_ | refine blk_alloc ?_ _)); exact BK174.out) hb)
                have n2_ := Aside0.mk (below_step (by repeat (first | (with_reducible first | exact HB.out | apply below_alloc | apply pw_below_drewN | apply below_drew1 | refine below_set ?_ GE174.out) | exact HB.out)) hb)
                have z_HO186 := fun (h0_ : b 4 = true) => (show Kd.R (Kd.int .i64) 3 w32 w.heap.size (fun _ => True) v185 y184 from by first | exact (Kd.R_elder' (by (with_reducible repeat (first | apply Kd.R_alloc | apply Kd.R_drewN | apply Kd.R_drew)); exact (Q_HO186 h0_)) (Kd.R_base ho33) hb) | exact Kd.R_mono (Kd.R_elder' (by (with_reducible repeat (first | apply Kd.R_alloc | apply Kd.R_drewN | apply Kd.R_drew)); exact (Q_HO186 h0_)) (Kd.R_base ho33) hb) (fun _ h_ => by first | trivial | exact h_ | exact h_.1))
                clear BK174
                clear HB
                have HO190 := n0_
                have BK174 := n1_
                have HB := n2_
                clear n0_ n1_ n2_
                clear hb ho33
                refine hK.out _ _ ⟨v185, v189, (by rw [ha.out]; exact putSel_upk 7 hb_ rfl rfl rfl), (by (with_reducible repeat (first | refine blk_drewN ?_ _ | refine blk_drew ?_ | refine blk_alloc ?_ _)); exact BK174.out), (by repeat (first | (with_reducible first | exact HB.out | apply below_alloc | apply pw_below_drewN | apply below_drew1 | refine below_set ?_ GE174.out) | exact HB.out)), z_HO186, fun _ => (by (with_reducible repeat (first | apply Kd.R_alloc | apply Kd.R_drewN | apply Kd.R_drew)); exact HO190.out)⟩
              refine steps_cons ?_ ?_
              · rintro b a w' ⟨v185, v189, ha, Q_BK174, Q_HB, Q_HO186, Q_HO190⟩ hb_ hon hoff
                refine ⟨_, rfl, fun K hK => ?_⟩
                have e20 : a.tmps[20]? = some (v189) := by rw [ha]; exact putSel_on (e := (10, 20, v189)) 7 rfl rfl (hon 10 (by kernel_rfl)) rfl
                replace ha := Aside0.mk ha
                have BK174 := Aside0.mk Q_BK174
                have HB := Aside0.mk Q_HB
                have HO186 := Aside0.mk (Q_HO186 (hon 4 (by kernel_rfl)))
                have HO190 := Aside0.mk (Q_HO190 (hon 10 (by kernel_rfl)))
                obtain ⟨Ao39, co39, eo39⟩ := Kd.R_slice HO190.out
                (first | subst eo39 | (injection eo39 with f1_ f2_ f3_; have f4_ := f1_.symm; have f5_ := f3_.symm; clear f1_ f2_ f3_; subst f4_; subst f5_))
                refine goes_ Tryd.func37 (by kernel_rfl) rfl #[.slice Ao39 y188.length co39] (by rfl) rfl rfl (by first | (simp only [List.map_toArray, List.map_cons, List.map_nil, Act.eval, Array.getD_eq_getD_getElem?, Option.getD_some, e20]; done) | (simp only [List.map_toArray, List.map_cons, List.map_nil, Act.eval, Array.getD_eq_getD_getElem?, Option.getD_some, e20]; rfl)) ?_
                with_reducible refine (impl_words.calls k _ _ y188 t191 _ ?side1 ?side2 A26.out).mono ?_
                (case side1 => repeat (first | exact (Kd.R_reads' HO190.out).2.2 | (with_reducible refine Kd.C_alloc ?_ _) | (with_reducible refine Kd.C_drewN ?_ _) | (with_reducible refine Kd.C_drew ?_)))
                (case side2 => exact (Kd.R_reads' HO190.out).2.1)
                rintro e w40 ⟨rfl, hb⟩
                refine ⟨_, rfl, ?_⟩
                have n0_ := Aside0.mk (Kd.R_below (by (with_reducible repeat (first | apply Kd.R_alloc | apply Kd.R_drewN | apply Kd.R_drew)); exact HO186.out) hb)
                have n1_ := Aside0.mk (Kd.R_below (by (with_reducible repeat (first | apply Kd.R_alloc | apply Kd.R_drewN | apply Kd.R_drew)); exact HO190.out) hb)
                have n2_ := Aside0.mk (blk_below (g := gb174) (o := .cells #[.int .i64 a0_0, .int .i64 a0_1, .int .i64 a0_2] 72 (0, 0)) (by (with_reducible repeat (first | refine blk_drewN ?_ _ | refine blk_drew ?_ | refine blk_alloc ?_ _)); exact BK174.out) hb)
                have n3_ := Aside0.mk (below_step (by repeat (first | (with_reducible first | exact HB.out | apply below_alloc | apply pw_below_drewN | apply below_drew1 | refine below_set ?_ GE174.out) | exact HB.out)) hb)
                clear HO186
                clear HO190
                clear BK174
                clear HB
                have HO186 := n0_
                have HO190 := n1_
                have BK174 := n2_
                have HB := n3_
                clear n0_ n1_ n2_ n3_
                (try clear hb)
                (try clear hb2)
                (try clear hk)
                (try clear hi)
                refine hK.out _ _ ⟨v185, .slice Ao39 y188.length co39, (by rw [ha.out]; exact putSel_upk 8 hb_ rfl rfl rfl), (by (with_reducible repeat (first | refine blk_drewN ?_ _ | refine blk_drew ?_ | refine blk_alloc ?_ _)); exact BK174.out), (by repeat (first | (with_reducible first | exact HB.out | apply below_alloc | apply pw_below_drewN | apply below_drew1 | refine below_set ?_ GE174.out) | exact HB.out)), fun _ => (by (with_reducible repeat (first | apply Kd.R_alloc | apply Kd.R_drewN | apply Kd.R_drew)); exact HO186.out), fun _ => (by (with_reducible repeat (first | apply Kd.R_alloc | apply Kd.R_drewN | apply Kd.R_drew)); exact HO190.out)⟩
              refine steps_cons ?_ ?_
              · rintro b a w' ⟨v185, v189, ha, Q_BK174, Q_HB, Q_HO186, Q_HO190⟩ hb_ hon hoff
                refine ⟨_, rfl, fun K hK => ?_⟩
                have e17 : a.tmps[17]? = some (.string (((t183 ++ (⟨#[42]⟩ : ByteArray)) ++ t187) ++ (⟨#[47]⟩ : ByteArray))) := by rw [ha]; exact putSel_on (e := (7, 17, .string (((t183 ++ (⟨#[42]⟩ : ByteArray)) ++ t187) ++ (⟨#[47]⟩ : ByteArray)))) 5 rfl rfl (hon 7 (by kernel_rfl)) rfl
                have e21 : a.tmps[21]? = some (.string t191) := by rw [ha]; exact putSel_on (e := (11, 21, .string t191)) 8 rfl rfl (hon 11 (by kernel_rfl)) rfl
                replace ha := Aside0.mk ha
                have BK174 := Aside0.mk Q_BK174
                have HB := Aside0.mk Q_HB
                have HO186 := Aside0.mk (Q_HO186 (hon 4 (by kernel_rfl)))
                have HO190 := Aside0.mk (Q_HO190 (hon 10 (by kernel_rfl)))
                refine value_ (w1 := w') (v := .string ((((t183 ++ (⟨#[42]⟩ : ByteArray)) ++ t187) ++ (⟨#[47]⟩ : ByteArray)) ++ t191)) (by rfl) rfl ?_ ?_
                · go_simp
                  (try simp only [i64_w])
                  try rfl
                  all_goals (try omega)
                refine hK.out _ _ ⟨v185, v189, (by rw [ha.out]; exact putSel_upk 9 hb_ rfl rfl rfl), Q_BK174, Q_HB, Q_HO186, Q_HO190⟩
              refine steps_cons ?_ ?_
              · rintro b a w' ⟨v185, v189, ha, Q_BK174, Q_HB, Q_HO186, Q_HO190⟩ hb_ hon hoff
                refine ⟨_, rfl, fun K hK => ?_⟩
                have e22 : a.tmps[22]? = some (.string ((((t183 ++ (⟨#[42]⟩ : ByteArray)) ++ t187) ++ (⟨#[47]⟩ : ByteArray)) ++ t191)) := by rw [ha]; exact putSel_on (e := (12, 22, .string ((((t183 ++ (⟨#[42]⟩ : ByteArray)) ++ t187) ++ (⟨#[47]⟩ : ByteArray)) ++ t191))) 9 rfl rfl (hon 12 (by kernel_rfl)) rfl
                replace ha := Aside0.mk ha
                have BK174 := Aside0.mk Q_BK174
                have HB := Aside0.mk Q_HB
                have HO186 := Aside0.mk (Q_HO186 (hon 4 (by kernel_rfl)))
                have HO190 := Aside0.mk (Q_HO190 (hon 10 (by kernel_rfl)))
                refine value_ (w1 := w') (v := .string ((((t183 ++ (⟨#[42]⟩ : ByteArray)) ++ t187) ++ (⟨#[47]⟩ : ByteArray)) ++ t191)) (by rfl) rfl ?_ ?_
                · go_simp
                  (try simp only [i64_w])
                  try rfl
                  all_goals (try omega)
                refine hK.out _ _ ⟨v185, v189, (by rw [ha.out]; exact putSel_upk 10 hb_ rfl rfl rfl), Q_BK174, Q_HB, Q_HO186, Q_HO190⟩
              exact steps_nil
            rintro b a w40 hall ⟨v185, v189, ha, Q_BK174, Q_HB, Q_HO186, Q_HO190⟩
            clear BK174 HB
            have hb1_ := hall 1 (by kernel_rfl)
            have hb3_ := hall 3 (by kernel_rfl)
            have hb4_ := hall 4 (by kernel_rfl)
            have hb5_ := hall 5 (by kernel_rfl)
            have hb6_ := hall 6 (by kernel_rfl)
            have hb7_ := hall 7 (by kernel_rfl)
            have hb9_ := hall 9 (by kernel_rfl)
            have hb10_ := hall 10 (by kernel_rfl)
            have hb11_ := hall 11 (by kernel_rfl)
            have hb12_ := hall 12 (by kernel_rfl)
            have hb13_ := hall 13 (by kernel_rfl)
            subst ha
            simp only [putSel, hb1_, hb3_, hb4_, hb5_, hb6_, hb7_, hb9_, hb10_, hb11_, hb12_, hb13_, if_true, Act.put, List.setIfInBounds_toArray, List.set_cons_zero, List.set_cons_succ]
            have BK174 := Aside0.mk Q_BK174
            clear Q_BK174
            have HB := Aside0.mk Q_HB
            clear Q_HB
            have HO186 := Aside0.mk (Q_HO186 hb4_)
            clear Q_HO186
            have HO190 := Aside0.mk (Q_HO190 hb10_)
            clear Q_HO190
            clear hall hb1_ hb3_ hb4_ hb5_ hb6_ hb7_ hb9_ hb10_ hb11_ hb12_ hb13_
            try go_wp2
            go_ret
            exact ⟨by first | rfl | (simp [errW_none, errW_some] <;> rfl) | (simp [*, errW_none, errW_some] <;> rfl), by repeat (first | (with_reducible first | exact HB.out | apply below_alloc | apply pw_below_drewN | apply below_drew1 | refine below_set ?_ GE174.out) | exact HB.out)⟩
          · rw [if_neg c27] at H
            exact absurd H (by simp)
        · rw [if_neg c25] at H
          exact absurd H (by simp)
      · rw [if_neg c24] at H
        exact absurd H (by simp)
    · rw [if_neg c22] at H
      exact absurd H (by simp)

/-! ### impl_VoiceText: function 16 -/
def impl_VoiceText.l0 : Nat → List ByteArray → List (S72) → Int → Int → Option (ByteArray × Bool)
  | 0, _, _, _, _ => none
  | k + 1, x4, x11, x12, x13 => if x13 < x12 then (if 0 ≤ x13 then (if x13 < (x11.length : Int) then ((impl_eventText.f k ((rd_T72 x11 x13).f0) ((rd_T72 x11 x13).f1) ((rd_T72 x11 x13).f2)).bind fun t198 => (if x4.length < 8796093022208 then (impl_VoiceText.l0 k (x4 ++ [t198]) x11 x12 (wrap64 (x13 + 1))) else (none))) else (none)) else (none)) else ((join.f x4 (⟨#[32]⟩ : ByteArray)).bind fun bt202 => (some (bt202.1, true)))
def impl_VoiceText.f (k : Nat) (l0 : List (S72)) : Option (ByteArray × Bool) := (impl_IsVoice.f k l0).bind fun t192 => (if t192 = true then (impl_VoiceText.l0 k (([] : List ByteArray)) l0 (l0.length : Int) 0) else (some ((⟨#[]⟩ : ByteArray), false)))
theorem impl_VoiceText.mono_l : ∀ k, (∀ y0 y1 y2 y3, LeO (impl_VoiceText.l0 k y0 y1 y2 y3) (impl_VoiceText.l0 (k + 1) y0 y1 y2 y3))
  | 0 => fun _ _ _ _ r h => by simp [impl_VoiceText.l0] at h
  | k + 1 => by
    have ih0 := impl_VoiceText.mono_l k
    · intro y0 y1 y2 y3
      unfold impl_VoiceText.l0
      repeat' first
      | (with_reducible exact ih0 _ _ _ _)
      | (with_reducible exact impl_IsVoice.mono _ _)
      | (with_reducible exact impl_eventText.mono _ _ _ _)
      | (with_reducible exact LeO.refl _)
      | (with_reducible exact LeO.none _)
      | (with_reducible refine LeO.ite ?_ ?_)
      | (with_reducible refine LeO.bind ?_ (fun _ => ?_))
      | exact ih0 _ _ _ _
      | exact impl_IsVoice.mono _ _
      | exact impl_eventText.mono _ _ _ _
      | exact LeO.none _
      | refine LeO.ite ?_ ?_
      | refine LeO.bind ?_ (fun _ => ?_)
theorem impl_VoiceText.mono : ∀ a0 k, LeO (impl_VoiceText.f k a0) (impl_VoiceText.f (k + 1) a0) := by
  intro a0 k
  have ih0 := impl_VoiceText.mono_l k
  unfold impl_VoiceText.f
  repeat' first
      | (with_reducible exact ih0 _ _ _ _)
      | (with_reducible exact impl_IsVoice.mono _ _)
      | (with_reducible exact impl_eventText.mono _ _ _ _)
      | (with_reducible exact LeO.refl _)
      | (with_reducible exact LeO.none _)
      | (with_reducible refine LeO.ite ?_ ?_)
      | (with_reducible refine LeO.bind ?_ (fun _ => ?_))
      | exact ih0 _ _ _ _
      | exact impl_IsVoice.mono _ _
      | exact impl_eventText.mono _ _ _ _
      | exact LeO.none _
      | refine LeO.ite ?_ ?_
      | refine LeO.bind ?_ (fun _ => ?_)
set_option maxHeartbeats 8000000 in
set_option maxRecDepth 100000 in
theorem impl_VoiceText.calls (k : Nat) (A0 : Option Addr) (c0 : Nat) (l0 : List (S72)) (r1 : ByteArray) (r2 : Bool) (w : World) (hr0 : Kd.C k72 w A0 l0.length l0) (hc0 : l0.length ≤ c0) (h : impl_VoiceText.f k l0 = some (r1, r2)) :
    Calls Tryd.prog 16 #[.slice A0 l0.length c0] w fun e w' => e = .returned (.tuple #[.string r1, .bool r2]) ∧ Below w.heap.size w w' := by
  have hu72 := Tryd.underlying72
  have HR0 := Aside0.mk hr0
  have HC0 := Aside0.mk hc0
  clear hr0 hc0
  have HB := Aside0.mk (Below.refl w.heap.size w)
  have H : ((impl_IsVoice.f k l0).bind fun t192 => (if t192 = true then (impl_VoiceText.l0 k (([] : List ByteArray)) l0 (l0.length : Int) 0) else (some ((⟨#[]⟩ : ByteArray), false)))) = some (r1, r2) := h
  clear h
  replace H := Option.bind_eq_some_iff.mp H
  obtain ⟨t192, A20, H⟩ := H
  replace H : (if t192 = true then (impl_VoiceText.l0 k (([] : List ByteArray)) l0 (l0.length : Int) 0) else (some ((⟨#[]⟩ : ByteArray), false))) = some (r1, r2) := H
  have A2 := Aside0.mk A20
  clear A20
  by_cases c3 : t192 = true
  · subst c3
    have H1 : (impl_VoiceText.l0 k (([] : List ByteArray)) l0 (l0.length : Int) 0) = some (r1, r2) := by rw [if_pos rfl] at H; exact H
    clear H
    have H := H1
    clear H1
    obtain ⟨y193, hy193⟩ : ∃ y_ : List ByteArray, y_ = (([] : List ByteArray)) := ⟨_, rfl⟩
    replace H : (impl_VoiceText.l0 k y193 l0 (l0.length : Int) 0) = some (r1, r2) := by first | (rw [hy193]; with_reducible exact H) | (have H2_ := (Option.bind_some _ _).symm.trans H; rw [hy193]; with_reducible exact H2_) | (have H2_ := (Option.bind_some _ _).symm.trans H; with_reducible exact H2_) | with_reducible exact H | (rw [hy193]; exact H) | exact H
    have Ny193 := Aside0.mk hy193
    clear hy193
    have H' := Aside0.mk H
    clear H
    go_enter Tryd.func16, Tryd.ntmps16
    go_wp2_with (first | ((with_reducible refine gate_callee (f := 43) rfl ?_); refine goesL_ (some 8) rfl rfl Tryd.func43 (by kernel_rfl) rfl #[.slice A0 l0.length c0] rfl (by (try simp only [List.map_toArray, List.map_cons, List.map_nil]); first | done | rfl | (simp only [List.length_drop, List.length_take]; rfl)) ?_; (with_reducible refine (impl_IsVoice.calls k _ _ l0 true _ ?side1 ?side2 A2.out).mono ?_); (case side1 => repeat (first | exact HR0.out | (with_reducible refine Kd.C_alloc ?_ _) | (with_reducible refine Kd.C_drewN ?_ _) | (with_reducible refine Kd.C_drew ?_))); (case side2 => exact HC0.out); rintro e w4 ⟨rfl, hb⟩; refine ⟨_, rfl, ?_⟩; have n0_ := Aside0.mk (below_step (by repeat (first | (with_reducible first | exact HB.out | apply below_alloc | apply pw_below_drewN | apply below_drew1) | exact HB.out)) hb); clear HB; have HB := n0_; clear n0_; (try clear hb); (try clear hb2); (try clear hk); (try clear hi)) | ((with_reducible refine gate_dst (N := 10) rfl ?_); refine Kd.R_lit Kd.string _ 9 ?hg (N := 10) ?hd (xs := ([] : List ByteArray)) (inner := []) (ok := fun _ => True) (okp := fun _ => True) ?hr ?hp (fun _ hk => hk) trivial (Below.refl _ _) (Nat.le_refl _) (by simp) ?_; (case hd => rfl); (case hg => rfl); (case hr => first | (go_simp; done) | (go_simp; rfl)); (case hp => exact (Reps.none _ _)); intro v194 w5 ho6 hb hg_ hnew_; clear hg_ hnew_; (first | rw [← Ny193.out] at ho6 | (simp only [Int.reduceToNat] at ho6; rw [← Ny193.out] at ho6)); have n0_ := Aside0.mk (Kd.R_lower ho6 (below_size (by repeat (first | (with_reducible first | exact HB.out | apply below_alloc | apply pw_below_drewN | apply below_drew1) | exact HB.out)))); have n1_ := Aside0.mk (below_step (by repeat (first | (with_reducible first | exact HB.out | apply below_alloc | apply pw_below_drewN | apply below_drew1) | exact HB.out)) hb); clear HB; have HO195 := n0_; have HB := n1_; clear n0_ n1_; clear hb ho6))
    go_loopg [4, 13] k (fun kq v4 v13 w' => ∃ (x4_1 : List ByteArray) (x13_1 : Int), v13 = .int .i64 x13_1 ∧ Aside0 (impl_VoiceText.l0 kq x4_1 l0 (l0.length : Int) x13_1 = some (r1, r2)) ∧ Aside0 (kq ≤ k) ∧ Aside0 (Kd.R Kd.string 9 w' w.heap.size (fun _ => True) v4 x4_1) ∧ Aside0 (Below w.heap.size w w'))
    case atStart => exact ⟨(y193), (0), (by first | rfl | (simp; done) | (simp [*]; done)), H', ⟨Nat.le_refl _⟩, ⟨by (with_reducible repeat (first | apply Kd.R_alloc | apply Kd.R_drewN | apply Kd.R_drew)); exact HO195.out⟩, ⟨by repeat (first | (with_reducible first | exact HB.out | apply below_alloc | apply pw_below_drewN | apply below_drew1) | exact HB.out)⟩⟩
    case round =>
      clear H'
      try clear c1
      try clear p2
      try clear c3
      try clear c4
      obtain ⟨x4_1, x13_1, rfl, HA, HK1, HO_4, HB⟩ := hrel
      cases gk with
      | zero => exact absurd HA.out (by simp [impl_VoiceText.l0])
      | succ k1 =>
        have H := HA.out
        clear HA
        simp only [impl_VoiceText.l0] at H
        by_cases c7 : x13_1 < (l0.length : Int)
        · rw [if_pos c7] at H
          have c7b0 : decide (x13_1 < (l0.length : Int)) = true := decide_eq_true c7
          clear c7
          by_cases c8 : 0 ≤ x13_1
          · rw [if_pos c8] at H
            have c8b0 : decide (0 ≤ x13_1) = true := decide_eq_true c8
            clear c8
            by_cases c9 : x13_1 < (l0.length : Int)
            · rw [if_pos c9] at H
              have c9b0 : decide (x13_1 < (l0.length : Int)) = true := decide_eq_true c9
              clear c9
              replace H := Option.bind_eq_some_iff.mp H
              obtain ⟨t198, A100, H⟩ := H
              replace H : (if x4_1.length < 8796093022208 then (impl_VoiceText.l0 k1 (x4_1 ++ [t198]) l0 (l0.length : Int) (wrap64 (x13_1 + 1))) else (none)) = some (r1, r2) := H
              have A10 := Aside0.mk A100
              clear A100
              by_cases c11 : x4_1.length < 8796093022208
              · rw [if_pos c11] at H
                have LMc11 := Aside0.mk c11
                clear c11
                obtain ⟨y199, hy199⟩ : ∃ y_ : List ByteArray, y_ = (x4_1 ++ [t198]) := ⟨_, rfl⟩
                replace H : (impl_VoiceText.l0 k1 y199 l0 (l0.length : Int) (wrap64 (x13_1 + 1))) = some (r1, r2) := by first | (rw [hy199]; with_reducible exact H) | (have H2_ := (Option.bind_some _ _).symm.trans H; rw [hy199]; with_reducible exact H2_) | (have H2_ := (Option.bind_some _ _).symm.trans H; with_reducible exact H2_) | with_reducible exact H | (rw [hy199]; exact H) | exact H
                have Ny199 := Aside0.mk hy199
                clear hy199
                have H' := Aside0.mk H
                clear H
                have p196 : 0 ≤ (x13_1 : Int) := of_decide_eq_true (by first | (with_reducible assumption) | assumption)
                have q196 : x13_1 < (l0.length : Int) := of_decide_eq_true (by first | (with_reducible assumption) | assumption)
                obtain ⟨ad196, e196, hx196_0, hx196_1, hx196_2⟩ := at_T72 HR0.out x13_1 p196 q196
                cases e196
                replace hx196_0 := (HB.out.cell (World.block_lt_of_cell? w _ hx196_0)).trans hx196_0
                replace hx196_1 := (HB.out.cell (World.block_lt_of_cell? w _ hx196_1)).trans hx196_1
                replace hx196_2 := (HB.out.cell (World.block_lt_of_cell? w _ hx196_2)).trans hx196_2
                replace p196 := eq_true p196
                replace q196 := eq_true q196
                go_wp2_with (first | ((with_reducible refine gate_dst (N := 6) rfl ?_); refine box_event ?hg (N := 6) ?hd (cs := #[.int .i64 0, .int .i64 0, .int .i64 0]) (t := 72) ?hr ?_; (case hd => rfl); (case hg => rfl); (case hr => first | (go_simp; done) | (go_simp; rfl)); intro gb197 hg w12 hbox hb; have n0_ := Aside0.mk (Kd.R_below (by (with_reducible repeat (first | apply Kd.R_alloc | apply Kd.R_drewN | apply Kd.R_drew)); exact HO_4.out) hb); have n1_ := Aside0.mk (below_step (by repeat (first | (with_reducible first | exact HB.out | apply below_alloc | apply pw_below_drewN | apply below_drew1) | exact HB.out)) hb); have n2_ := Aside0.mk (hbox); have n3_ := Aside0.mk ((by rw [hg]; exact (below_size (by repeat (first | (with_reducible first | exact HB.out | apply below_alloc | apply pw_below_drewN | apply below_drew1) | exact HB.out))) : w.heap.size ≤ gb197)); have n4_ := Aside0.mk ((by rw [hg]; exact (below_size (by repeat (first | (with_reducible first | exact HB.out | apply below_alloc | apply pw_below_drewN | apply below_drew1) | exact HB.out))) : w.heap.size ≤ gb197)); clear HO_4; clear HB; have HO_4 := n0_; have HB := n1_; have BK197 := n2_; have GW197 := n3_; have GE197 := n4_; clear n0_ n1_ n2_ n3_ n4_; clear hb hbox hg; have hcz13_0 : w12.cell? ⟨gb197, 0, none⟩ = some (.int .i64 0) := (blk_cell BK197.out 0).trans rfl; have hcz13_1 : w12.cell? ⟨gb197, 1, none⟩ = some (.int .i64 0) := (blk_cell BK197.out 1).trans rfl; have hcz13_2 : w12.cell? ⟨gb197, 2, none⟩ = some (.int .i64 0) := (blk_cell BK197.out 2).trans rfl; have hfz13_0 := blk_frozen BK197.out 0; have hfz13_1 := blk_frozen BK197.out 1; have hfz13_2 := blk_frozen BK197.out 2) | ((with_reducible refine gate_callee (f := 44) rfl ?_); refine goesL_ (some 19) rfl rfl Tryd.func44 (by kernel_rfl) rfl #[.agg #[.int .i64 ((rd_T72 l0 x13_1).f0), .int .i64 ((rd_T72 l0 x13_1).f1), .int .i64 ((rd_T72 l0 x13_1).f2)]] rfl (by (try simp only [List.map_toArray, List.map_cons, List.map_nil]); first | done | rfl | (simp only [List.length_drop, List.length_take]; rfl)) ?_; (with_reducible refine (impl_eventText.calls k1 ((rd_T72 l0 x13_1).f0) ((rd_T72 l0 x13_1).f1) ((rd_T72 l0 x13_1).f2) t198 _ A10.out).mono ?_); rintro e w14 ⟨rfl, hb⟩; refine ⟨_, rfl, ?_⟩; have n0_ := Aside0.mk (Kd.R_below (by (with_reducible repeat (first | apply Kd.R_alloc | apply Kd.R_drewN | apply Kd.R_drew)); exact (Kd.R_mono (Kd.R_far (p := ⟨gb197, 2, none⟩) (Kd.R_far (p := ⟨gb197, 1, none⟩) (Kd.R_far (p := ⟨gb197, 0, none⟩) (Kd.R_types HO_4.out BK197.out (by decide)) (fun _ hk => hk.2) (.int .i64 ((rd_T72 l0 x13_1).f0))) (fun _ hk => hk.2) (.int .i64 ((rd_T72 l0 x13_1).f1))) (fun _ hk => hk.2) (.int .i64 ((rd_T72 l0 x13_1).f2))) (fun _ h_ => h_.1))) hb); have n1_ := Aside0.mk (blk_below (g := gb197) (o := .cells #[.int .i64 ((rd_T72 l0 x13_1).f0), .int .i64 ((rd_T72 l0 x13_1).f1), .int .i64 ((rd_T72 l0 x13_1).f2)] 72 (0, 0)) (by (with_reducible repeat (first | refine blk_drewN ?_ _ | refine blk_drew ?_ | refine blk_alloc ?_ _)); refine blk_put (cs := #[.int .i64 ((rd_T72 l0 x13_1).f0), .int .i64 ((rd_T72 l0 x13_1).f1), .int .i64 0]) ?_ 2 _ rfl; (with_reducible repeat (first | refine blk_drewN ?_ _ | refine blk_drew ?_ | refine blk_alloc ?_ _)); refine blk_put (cs := #[.int .i64 ((rd_T72 l0 x13_1).f0), .int .i64 0, .int .i64 0]) ?_ 1 _ rfl; (with_reducible repeat (first | refine blk_drewN ?_ _ | refine blk_drew ?_ | refine blk_alloc ?_ _)); refine blk_put (cs := #[.int .i64 0, .int .i64 0, .int .i64 0]) ?_ 0 _ rfl; (with_reducible repeat (first | refine blk_drewN ?_ _ | refine blk_drew ?_ | refine blk_alloc ?_ _)); exact BK197.out) hb); have n2_ := Aside0.mk (below_step (by repeat (first | (with_reducible first | exact HB.out | apply below_alloc | apply pw_below_drewN | apply below_drew1 | refine below_set ?_ GE197.out) | exact HB.out)) hb); clear HO_4; clear BK197; clear HB; have HO_4 := n0_; have BK197 := n1_; have HB := n2_; clear n0_ n1_ n2_; (try clear hb); (try clear hb2); (try clear hk); (try clear hi)) | ((with_reducible refine gate_builtin (b := .append) (xs := #[.tmp 17, .tmp 20]) rfl ?_); at_builtin; refine Kd.R_append Kd.string (w0 := w) w.heap.size rfl (.tmp 17) (.tmp 20) 75 9 (.string ⟨#[]⟩) 16 rfl Tryd.underlying75 info9 rfl (by decide) (by omega) u4 x4_1 t198 [.string t198] (fun _ => True) (fun _ => False) rfl rfl ?aP (fun _ hk => hk.elim) ?aF ?aO ?aB ?aS ?aL ?_; (case aP => exact rfl); (case aB => exact (by repeat (first | (with_reducible first | exact HB.out | apply below_alloc | apply pw_below_drewN | apply below_drew1 | refine below_set ?_ GE197.out) | exact HB.out))); (case aF => exact (fun _ _ => trivial)); (case aO => exact (by (with_reducible repeat (first | apply Kd.R_alloc | apply Kd.R_drewN | apply Kd.R_drew)); exact HO_4.out)); (case aS => exact (below_size (by repeat (first | (with_reducible first | exact HB.out | apply below_alloc | apply pw_below_drewN | apply below_drew1 | refine below_set ?_ GE197.out) | exact HB.out)))); (case aL => have := LMc11.out; omega); intro v200 w15 ho hb hg hat; rw [← Ny199.out] at ho; have n0_ := Aside0.mk (blk_grown (g := gb197) (o := .cells #[.int .i64 ((rd_T72 l0 x13_1).f0), .int .i64 ((rd_T72 l0 x13_1).f1), .int .i64 ((rd_T72 l0 x13_1).f2)] 72 (0, 0)) (by (with_reducible repeat (first | refine blk_drewN ?_ _ | refine blk_drew ?_ | refine blk_alloc ?_ _)); exact BK197.out) hg (Kd.R_ne HO_4.out BK197.out (by decide))); have n1_ := Aside0.mk (hb); have n2_ := Aside0.mk (ho); clear BK197; clear HB; clear HO_4; have BK197 := n0_; have HB := n1_; have HO201 := n2_; clear n0_ n1_ n2_; clear ho hb hg hat))
                go_roundg k1
                case measure => have := HK1.out; omega
                case rel => exact ⟨(y199), (wrap64 (x13_1 + 1)), (by first | rfl | (simp; done) | (simp [*]; done)), H', ⟨by have := HK1.out; omega⟩, ⟨by (with_reducible repeat (first | apply Kd.R_alloc | apply Kd.R_drewN | apply Kd.R_drew)); exact HO201.out⟩, ⟨by repeat (first | (with_reducible first | exact HB.out | apply below_alloc | apply pw_below_drewN | apply below_drew1 | refine below_set ?_ GE197.out) | exact HB.out)⟩⟩
              · rw [if_neg c11] at H
                exact absurd H (by simp)
            · rw [if_neg c9] at H
              exact absurd H (by simp)
          · rw [if_neg c8] at H
            exact absurd H (by simp)
        · rw [if_neg c7] at H
          have c7b0 : decide (x13_1 < (l0.length : Int)) = false := decide_eq_false c7
          clear c7
          replace H := Option.bind_eq_some_iff.mp H
          obtain ⟨⟨t202, t203⟩, A160, H⟩ := H
          replace H : (some (t202, true)) = some (r1, r2) := H
          have A16 := Aside0.mk A160
          clear A160
          simp only [Option.some.injEq, Prod.mk.injEq] at H
          obtain ⟨rfl, rfl⟩ := H
          obtain ⟨Ao17, co17, eo17⟩ := Kd.R_slice HO_4.out
          subst eo17
          go_wp2_with (first | ((with_reducible refine gate_callee (f := 45) rfl ?_); refine goesL_ (some 24) rfl rfl Tryd.func45 (by kernel_rfl) rfl #[.slice Ao17 x4_1.length co17, .string (⟨#[32]⟩ : ByteArray)] rfl (by (try simp only [List.map_toArray, List.map_cons, List.map_nil]); first | done | rfl | (simp only [List.length_drop, List.length_take]; rfl)) ?_; (with_reducible refine (join.calls (fun k_ => some k_ = (.slice Ao17 x4_1.length co17 : Value).ownBlock) (.slice Ao17 x4_1.length co17) x4_1 (⟨#[32]⟩ : ByteArray) t202 t203 w _ ?side1 ?side2 A16.out).mono ?_); (case side1 => repeat (first | (with_reducible first | exact HB.out | apply below_alloc | apply pw_below_drewN | apply below_drew1) | exact HB.out)); (case side2 => exact Kd.R_tight rfl HO_4.out); rintro e w18 ⟨rfl, hy0, hb, hkp⟩; refine ⟨_, rfl, ?_⟩; have n0_ := Aside0.mk (Kd.R_reok rfl hy0 (fun k_ e_ => HO_4.out.1 k_ e_)); have n1_ := Aside0.mk (hb); clear HO_4; clear HB; have HO_4 := n0_; have HB := n1_; clear n0_ n1_; (try clear hb); (try clear hkp); (try clear hy0)))
          go_ret2
          exact ⟨by first | rfl | (simp [errW_none, errW_some] <;> rfl) | (simp [*, errW_none, errW_some] <;> rfl), by repeat (first | (with_reducible first | exact HB.out | apply below_alloc | apply pw_below_drewN | apply below_drew1) | exact HB.out)⟩
  · replace c3 := Bool.eq_false_iff.mpr c3
    subst c3
    have H1 : (some ((⟨#[]⟩ : ByteArray), false)) = some (r1, r2) := by rw [if_neg (show ¬ (false = true) by decide)] at H; exact H
    clear H
    have H := H1
    clear H1
    simp only [Option.some.injEq, Prod.mk.injEq] at H
    obtain ⟨rfl, rfl⟩ := H
    go_enter Tryd.func16, Tryd.ntmps16
    go_wp2_with (first | ((with_reducible refine gate_callee (f := 43) rfl ?_); refine goesL_ (some 8) rfl rfl Tryd.func43 (by kernel_rfl) rfl #[.slice A0 l0.length c0] rfl (by (try simp only [List.map_toArray, List.map_cons, List.map_nil]); first | done | rfl | (simp only [List.length_drop, List.length_take]; rfl)) ?_; (with_reducible refine (impl_IsVoice.calls k _ _ l0 false _ ?side1 ?side2 A2.out).mono ?_); (case side1 => repeat (first | exact HR0.out | (with_reducible refine Kd.C_alloc ?_ _) | (with_reducible refine Kd.C_drewN ?_ _) | (with_reducible refine Kd.C_drew ?_))); (case side2 => exact HC0.out); rintro e w19 ⟨rfl, hb⟩; refine ⟨_, rfl, ?_⟩; have n0_ := Aside0.mk (below_step (by repeat (first | (with_reducible first | exact HB.out | apply below_alloc | apply pw_below_drewN | apply below_drew1) | exact HB.out)) hb); clear HB; have HB := n0_; clear n0_; (try clear hb); (try clear hb2); (try clear hk); (try clear hi)))
    go_ret2
    exact ⟨by first | rfl | (simp [errW_none, errW_some] <;> rfl) | (simp [*, errW_none, errW_some] <;> rfl), by repeat (first | (with_reducible first | exact HB.out | apply below_alloc | apply pw_below_drewN | apply below_drew1) | exact HB.out)⟩

end Go.Proofs.YtgeipgflhjakjaaDoor.PFnExactVoiceText
