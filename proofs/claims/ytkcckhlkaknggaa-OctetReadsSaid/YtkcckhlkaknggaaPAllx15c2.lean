/- Written by a program of this session: functions of the Go program as Lean functions, and the walks that tie them to it. -/
import Derived.Test.YtkcckhlkaknggaaPAllx15b
namespace Go.Proofs.Ytkcckhlkaknggaa.PAll
open Go.RowKit Go.Proofs.YtkcckhlkaknggaaW.PrintWords Go.Proofs.YtkcckhlkaknggaaW.PrintLast Go.Proofs.YtkcckhlkaknggaaW.PrintMore
attribute [local go_sem] max2_int min2_int max_two min_two max_three min_three max_four min_four   -- for this text's walks alone
set_option linter.unusedVariables false
set_option linter.unusedSimpArgs false
set_option maxHeartbeats 8000000 in
set_option maxRecDepth 100000 in
theorem diacriticlaw01_do.case2 (k : Nat) (g : Nat) (s0_0 : ByteArray) (s0_1 : Int) (s0_2 : Int) (s0_3 : Int) (s0_4 : Int) (a1_0 : ByteArray) (a1_1 : Int) (a1_2 : Int) (a1_3 : Int) (a1_4 : Int) (a2_0 : Int) (a2_1 : Int) (a2_2 : Int) (a2_3 : ByteArray) (r1 : ByteArray) (r2 : Int) (r3 : Int) (r4 : Int) (r5 : Int) (r6 : Bool) (r7 : ByteArray) (r8 : Int) (r9 : Int) (r10 : Int) (r11 : Int) (w0 w : World) (hI : IsS68 w0 w g s0_0 s0_1 s0_2 s0_3 s0_4) (hB : Below w0.heap.size w0 w) (hcs_ : Aside0 (a2_0 = 2)) (h : diacriticlaw01_do.f k s0_0 s0_1 s0_2 s0_3 s0_4 a1_0 a1_1 a1_2 a1_3 a1_4 a2_0 a2_1 a2_2 a2_3 = some (r1, r2, r3, r4, r5, r6, r7, r8, r9, r10, r11)) :
    Calls Try.prog 34 #[.pointer (some ⟨g, 0, none⟩), .agg #[.string a1_0, .int .i64 a1_1, .int .i64 a1_2, .int .i64 a1_3, .int .i64 a1_4], .agg #[.int .i64 a2_0, .int .i64 a2_1, .int .i64 a2_2, .string a2_3]] w fun e w' => e = .returned (.tuple #[.agg #[.string r1, .int .i64 r2, .int .i64 r3, .int .i64 r4, .int .i64 r5], .bool r6]) ∧ IsS68 w0 w' g r7 r8 r9 r10 r11 ∧ Below w0.heap.size w0 w' ∧ KeepBut w w' g none := by
  have hu54 := Try.underlying54
  have hu56 := Try.underlying56
  have HI0 := Aside0.mk hI
  have HK := Aside0.mk (KeepBut.refl w g none)
  have HL := Aside0.mk hB.size
  clear hI
  have HW0 := Aside0.mk hB.size
  have HB := Aside0.mk hB
  clear hB
  have H : (if a2_0 = 0 then ((diacriticref01_Take.f a1_0 a1_1 a1_2 a1_3 a1_4 a2_1).bind fun bt356 => ((octet_In_Take.f s0_0 s0_1 s0_2 s0_3 s0_4 a2_1).bind fun bt363 => (some (bt356.1, bt356.2.1, bt356.2.2.1, bt356.2.2.2.1, bt356.2.2.2.2.1, (bt363.1.toList == bt356.2.2.2.2.2.toList), bt363.2.1, bt363.2.2.1, bt363.2.2.2.1, bt363.2.2.2.2.1, bt363.2.2.2.2.2)))) else (if a2_0 = 1 then ((diacriticref01_Left.f a1_0 a1_1 a1_2 a1_3 a1_4).bind fun t369 => ((diacriticref01_Take.f a1_0 a1_1 a1_2 a1_3 a1_4 t369).bind fun bt370 => ((octet_In_Rest.f s0_0 s0_1 s0_2 s0_3 s0_4).bind fun bt377 => (some (bt370.1, bt370.2.1, bt370.2.2.1, bt370.2.2.2.1, bt370.2.2.2.2.1, (bt377.1.toList == bt370.2.2.2.2.2.toList), bt377.2.1, bt377.2.2.1, bt377.2.2.2.1, bt377.2.2.2.2.1, bt377.2.2.2.2.2))))) else (if a2_0 = 2 then ((octet_In_Peek.f s0_0 s0_1 s0_2 s0_3 s0_4 a2_1).bind fun bt383 => ((diacriticref01_Peek.f k a1_0 a1_1 a1_2 a1_3 a1_4 a2_1).bind fun t389 => (some (a1_0, a1_1, a1_2, a1_3, a1_4, (bt383.1.toList == t389.toList), bt383.2.1, bt383.2.2.1, bt383.2.2.2.1, bt383.2.2.2.2.1, bt383.2.2.2.2.2)))) else (if a2_0 = 3 then ((diacriticref01_Size.f a2_1).bind fun t390 => ((diacriticref01_Take.f a1_0 a1_1 a1_2 a1_3 a1_4 t390).bind fun bt391 => ((octet_In_Big.f s0_0 s0_1 s0_2 s0_3 s0_4 a2_1).bind fun bt398 => ((diacriticref01_Number.f k bt391.2.2.2.2.2).bind fun t404 => (some (bt391.1, bt391.2.1, bt391.2.2.1, bt391.2.2.2.1, bt391.2.2.2.2.1, (bt398.1 == t404), bt398.2.1, bt398.2.2.1, bt398.2.2.2.1, bt398.2.2.2.2.1, bt398.2.2.2.2.2)))))) else (if a2_0 = 4 then ((diacriticref01_Size.f a2_1).bind fun t405 => ((diacriticref01_Take.f a1_0 a1_1 a1_2 a1_3 a1_4 t405).bind fun bt406 => ((octet_In_Small.f s0_0 s0_1 s0_2 s0_3 s0_4 a2_1).bind fun bt413 => ((diacriticref01_Back.f k bt406.2.2.2.2.2).bind fun t419 => ((diacriticref01_Number.f k t419).bind fun t420 => (some (bt406.1, bt406.2.1, bt406.2.2.1, bt406.2.2.2.1, bt406.2.2.2.2.1, (bt413.1 == t420), bt413.2.1, bt413.2.2.1, bt413.2.2.2.1, bt413.2.2.2.2.1, bt413.2.2.2.2.2))))))) else (if a2_0 = 5 then ((diacriticref01_ReadSafe.f k a1_0 a1_1 a1_2 a1_3 a1_4).bind fun bt421 => ((octet_In_Safe.f s0_0 s0_1 s0_2 s0_3 s0_4).bind fun bt428 => (some (bt421.1, bt421.2.1, bt421.2.2.1, bt421.2.2.2.1, bt421.2.2.2.2.1, (bt428.1 == bt421.2.2.2.2.2), bt428.2.1, bt428.2.2.1, bt428.2.2.2.1, bt428.2.2.2.2.1, bt428.2.2.2.2.2)))) else (if a2_0 = 6 then ((diacriticref01_Want.f k a1_0 a1_1 a1_2 a1_3 a1_4 a2_3).bind fun bt434 => ((octet_In_Want.f k s0_0 s0_1 s0_2 s0_3 s0_4 a2_3).bind fun bt441 => (some (bt434.1, bt434.2.1, bt434.2.2.1, bt434.2.2.2.1, bt434.2.2.2.2.1, (bt441.1 == bt434.2.2.2.2.2), bt441.2.1, bt441.2.2.1, bt441.2.2.2.1, bt441.2.2.2.2.1, bt441.2.2.2.2.2)))) else (if a2_0 = 7 then ((diacriticref01_Until.f k a1_0 a1_1 a1_2 a1_3 a1_4 a2_3).bind fun bt447 => ((octet_In_Until.f s0_0 s0_1 s0_2 s0_3 s0_4 a2_3).bind fun bt454 => (some (bt447.1, bt447.2.1, bt447.2.2.1, bt447.2.2.2.1, bt447.2.2.2.2.1, (bt454.1.toList == bt447.2.2.2.2.2.toList), bt454.2.1, bt454.2.2.1, bt454.2.2.2.1, bt454.2.2.2.2.1, bt454.2.2.2.2.2)))) else (if a2_0 = 8 then ((octet_In_Fail.f s0_0 s0_1 s0_2 s0_3 s0_4 a2_2 a2_1).bind fun bt460 => ((diacriticref01_Fail.f a1_0 a1_1 a1_2 a1_3 a1_4 a2_2 a2_1).bind fun bt465 => (some (bt465.1, bt465.2.1, bt465.2.2.1, bt465.2.2.2.1, bt465.2.2.2.2, true, bt460.1, bt460.2.1, bt460.2.2.1, bt460.2.2.2.1, bt460.2.2.2.2)))) else (some (a1_0, a1_1, a1_2, a1_3, a1_4, true, s0_0, s0_1, s0_2, s0_3, s0_4))))))))))) = some (r1, r2, r3, r4, r5, r6, r7, r8, r9, r10, r11) := h
  clear h
  by_cases c4 : a2_0 = 0
  · exact absurd c4 (by have h_ := hcs_.out; omega)
  · rw [if_neg c4] at H
    have c4b0 : (a2_0 == 0) = false := beq_eq_false_iff_ne.mpr c4
    have c4b1 : (a2_0 != 0) = true := bne_iff_ne.mpr c4
    by_cases c32 : a2_0 = 1
    · exact absurd c32 (by have h_ := hcs_.out; omega)
    · rw [if_neg c32] at H
      have c32b0 : (a2_0 == 1) = false := beq_eq_false_iff_ne.mpr c32
      have c32b1 : (a2_0 != 1) = true := bne_iff_ne.mpr c32
      by_cases c61 : a2_0 = 2
      · rw [if_pos c61] at H
        have c61b0 : (a2_0 == 2) = true := beq_iff_eq.mpr c61
        have c61b1 : (a2_0 != 2) = false := bne_eq_false_iff_eq.mpr c61
        clear c61
        replace H := Option.bind_eq_some_iff.mp H
        obtain ⟨⟨t383, t384, t385, t386, t387, t388⟩, A620, H⟩ := H
        replace H : ((diacriticref01_Peek.f k a1_0 a1_1 a1_2 a1_3 a1_4 a2_1).bind fun t389 => (some (a1_0, a1_1, a1_2, a1_3, a1_4, (t383.toList == t389.toList), t384, t385, t386, t387, t388))) = some (r1, r2, r3, r4, r5, r6, r7, r8, r9, r10, r11) := H
        have A62 := Aside0.mk A620
        clear A620
        replace H := Option.bind_eq_some_iff.mp H
        obtain ⟨t389, A630, H⟩ := H
        replace H : (some (a1_0, a1_1, a1_2, a1_3, a1_4, (t383.toList == t389.toList), t384, t385, t386, t387, t388)) = some (r1, r2, r3, r4, r5, r6, r7, r8, r9, r10, r11) := H
        have A63 := Aside0.mk A630
        clear A630
        simp only [Option.some.injEq, Prod.mk.injEq] at H
        obtain ⟨rfl, rfl, rfl, rfl, rfl, rfl, rfl, rfl, rfl, rfl, rfl⟩ := H
        go_enter Try.func34, Try.ntmps34
        try go_wp2_with (first | ((with_reducible refine gate_dst (N := 4) rfl ?_); refine box_event ?hg (N := 4) ?hd (cs := #[.string a1_0, .int .i64 a1_1, .int .i64 a1_2, .int .i64 a1_3, .int .i64 a1_4]) (t := 54) ?hr ?_; (case hd => rfl); (case hg => rfl); (case hr => first | (go_simp; done) | (go_simp; rfl)); intro gb353 hg w64 hbox hb; have n0_ := Aside0.mk (IsS68.below q_2 hb); have n1_ := Aside0.mk (KeepBut.trans q_3 (KeepBut.of_below hb g none) (.inl rfl)); have n2_ := Aside0.mk (below_step q_4 hb); have n3_ := Aside0.mk (hbox); have n4_ := Aside0.mk ((q_101 : w.heap.size ≤ gb353)); have n5_ := Aside0.mk ((Nat.le_trans HW0.out (q_101 : w.heap.size ≤ gb353) : w0.heap.size ≤ gb353)); have n6_ := Aside0.mk ((q_5 : g ≠ gb353)); have n7_ := Aside0.mk ((q_6 : gb353 ≠ g)); clear HI0; clear HK; clear HB; have HI0 := n0_; have HK := n1_; have HB := n2_; have BK353 := n3_; have GW353 := n4_; have GE353 := n5_; have NB0_353 := n6_; have NB353_0 := n7_; clear n0_ n1_ n2_ n3_ n4_ n5_ n6_ n7_; clear hb hbox hg) | ((with_reducible refine gate_dst (N := 5) rfl ?_); refine box_event ?hg (N := 5) ?hd (cs := #[.int .i64 a2_0, .int .i64 a2_1, .int .i64 a2_2, .string a2_3]) (t := 56) ?hr ?_; (case hd => rfl); (case hg => rfl); (case hr => first | (go_simp; done) | (go_simp; rfl)); intro gb354 hg w65 hbox hb; have n0_ := Aside0.mk (IsS68.below q_44 hb); have n1_ := Aside0.mk (blk_below (g := gb353) (o := .cells #[.string a1_0, .int .i64 a1_1, .int .i64 a1_2, .int .i64 a1_3, .int .i64 a1_4] 54 (0, 0)) q_45 hb); have n2_ := Aside0.mk (KeepBut.trans q_46 (KeepBut.of_below hb g none) (.inl rfl)); have n3_ := Aside0.mk (below_step q_47 hb); have n4_ := Aside0.mk (hbox); have n5_ := Aside0.mk ((q_108 : w.heap.size ≤ gb354)); have n6_ := Aside0.mk ((Nat.le_trans HW0.out (q_108 : w.heap.size ≤ gb354) : w0.heap.size ≤ gb354)); have n7_ := Aside0.mk ((q_109 : gb353 ≠ gb354)); have n8_ := Aside0.mk ((q_110 : gb354 ≠ gb353)); have n9_ := Aside0.mk ((q_48 : g ≠ gb354)); have n10_ := Aside0.mk ((q_49 : gb354 ≠ g)); clear HI0; clear BK353; clear HK; clear HB; have HI0 := n0_; have BK353 := n1_; have HK := n2_; have HB := n3_; have BK354 := n4_; have GW354 := n5_; have GE354 := n6_; have NB353_354 := n7_; have NB354_353 := n8_; have NB0_354 := n9_; have NB354_0 := n10_; clear n0_ n1_ n2_ n3_ n4_ n5_ n6_ n7_ n8_ n9_ n10_; clear hb hbox hg) | ((with_reducible refine gate_dst (N := 6) rfl ?_); refine box_event ?hg (N := 6) ?hd (cs := #[.string (⟨#[]⟩ : ByteArray), .int .i64 0, .int .i64 0, .int .i64 0, .int .i64 0]) (t := 54) ?hr ?_; (case hd => rfl); (case hg => rfl); (case hr => first | (go_simp; done) | (go_simp; rfl)); intro gb355 hg w66 hbox hb; have n0_ := Aside0.mk (IsS68.below q_50 hb); have n1_ := Aside0.mk (blk_below (g := gb353) (o := .cells #[.string a1_0, .int .i64 a1_1, .int .i64 a1_2, .int .i64 a1_3, .int .i64 a1_4] 54 (0, 0)) q_45 hb); have n2_ := Aside0.mk (blk_below (g := gb354) (o := .cells #[.int .i64 a2_0, .int .i64 a2_1, .int .i64 a2_2, .string a2_3] 56 (0, 0)) q_51 hb); have n3_ := Aside0.mk (KeepBut.trans q_52 (KeepBut.of_below hb g none) (.inl rfl)); have n4_ := Aside0.mk (below_step q_53 hb); have n5_ := Aside0.mk (hbox); have n6_ := Aside0.mk ((q_111 : w.heap.size ≤ gb355)); have n7_ := Aside0.mk ((Nat.le_trans HW0.out (q_111 : w.heap.size ≤ gb355) : w0.heap.size ≤ gb355)); have n8_ := Aside0.mk ((q_109 : gb353 ≠ gb355)); have n9_ := Aside0.mk ((q_110 : gb355 ≠ gb353)); have n10_ := Aside0.mk ((q_112 : gb354 ≠ gb355)); have n11_ := Aside0.mk ((q_113 : gb355 ≠ gb354)); have n12_ := Aside0.mk ((q_54 : g ≠ gb355)); have n13_ := Aside0.mk ((q_55 : gb355 ≠ g)); clear HI0; clear BK353; clear BK354; clear HK; clear HB; have HI0 := n0_; have BK353 := n1_; have BK354 := n2_; have HK := n3_; have HB := n4_; have BK355 := n5_; have GW355 := n6_; have GE355 := n7_; have NB353_355 := n8_; have NB355_353 := n9_; have NB354_355 := n10_; have NB355_354 := n11_; have NB0_355 := n12_; have NB355_0 := n13_; clear n0_ n1_ n2_ n3_ n4_ n5_ n6_ n7_ n8_ n9_ n10_ n11_ n12_ n13_; clear hb hbox hg; have hnb67 := NB354_353.out; have hnc67 := NB353_354.out; have hnb68 := NB354_355.out; have hnc68 := NB355_354.out; have hnb69 := NB354_0.out; have hnc69 := NB0_354.out; obtain ⟨hcz70_0, hcz70_1, hcz70_2, hcz70_3, hfz70_0, hfz70_1, hfz70_2, hfz70_3⟩ := cells4_ BK354.out))
        have n0_ := Aside0.mk (blk_drew BK353.out)
        have n1_ := Aside0.mk (blk_drew BK354.out)
        have n2_ := Aside0.mk (blk_drew BK355.out)
        have n3_ := Aside0.mk (IsS68.drew HI0.out)
        have n4_ := Aside0.mk (keep_drew HK.out)
        have n5_ := Aside0.mk (below_drew1 HB.out)
        clear BK353
        clear BK354
        clear BK355
        clear HI0
        clear HK
        clear HB
        have BK353 := n0_
        have BK354 := n1_
        have BK355 := n2_
        have HI0 := n3_
        have HK := n4_
        have HB := n5_
        clear n0_ n1_ n2_ n3_ n4_ n5_
        refine start_ (n := 12) (S := fun w' => w'.cell? ⟨gb353, 0, none⟩ = some (.string a1_0) ∧ w'.cell? ⟨gb353, 1, none⟩ = some (.int .i64 a1_1) ∧ w'.cell? ⟨gb353, 2, none⟩ = some (.int .i64 a1_2) ∧ w'.cell? ⟨gb353, 3, none⟩ = some (.int .i64 a1_3) ∧ w'.cell? ⟨gb353, 4, none⟩ = some (.int .i64 a1_4) ∧ w'.cell? ⟨gb354, 0, none⟩ = some (.int .i64 a2_0) ∧ w'.cell? ⟨gb354, 1, none⟩ = some (.int .i64 a2_1) ∧ w'.cell? ⟨gb354, 2, none⟩ = some (.int .i64 a2_2) ∧ w'.cell? ⟨gb354, 3, none⟩ = some (.string a2_3)) (ds := []) #[false, false, false, false, false, false, false, false, false, false, false, false] (by kernel_rfl) rfl rfl ⟨(blk_cell BK353.out 0).trans rfl, (blk_cell BK353.out 1).trans rfl, (blk_cell BK353.out 2).trans rfl, (blk_cell BK353.out 3).trans rfl, (blk_cell BK353.out 4).trans rfl, (blk_cell BK354.out 0).trans rfl, (blk_cell BK354.out 1).trans rfl, (blk_cell BK354.out 2).trans rfl, (blk_cell BK354.out 3).trans rfl⟩ (fun hHeld => ?_); refine with_tabW diacriticlaw01_do.tab9 diacriticlaw01_do.bits9 (fun HT_ HW_ => ?_)
        generalize w66.drew = w71 at BK353 BK354 BK355 HI0 HK HB hHeld ⊢
        refine pure_ (i := 1) (N := some 57) (v := ?_) (a' := ?_) #[false, true, false, false, false, false, false, false, false, false, false, false] rfl rfl (any_of HT_.out (by kernel_rfl)) (fun _ _ _ h => h) (Or.inl ⟨by rfl, ?_⟩) ?_ ?_
        rotate_left
        · intro w'
          go_simp
          with_reducible rfl
        rotate_left
        · simp only [Act.put, List.setIfInBounds_toArray, List.set_cons_zero, List.set_cons_succ, i64_w, i32_w]
          rfl
        refine pure_ (i := 2) (N := some 58) (v := ?_) (a' := ?_) #[false, true, true, false, false, false, false, false, false, false, false, false] rfl rfl (any_of HT_.out (by kernel_rfl)) (fun _ _ _ h => h) (Or.inl ⟨by rfl, ?_⟩) ?_ ?_
        rotate_left
        · intro w'
          go_simp
          with_reducible rfl
        rotate_left
        · simp only [Act.put, List.setIfInBounds_toArray, List.set_cons_zero, List.set_cons_succ, i64_w, i32_w]
          rfl
        refine pure_ (i := 6) (N := some 62) (v := ?_) (a' := ?_) #[false, true, true, false, false, false, true, false, false, false, false, false] rfl rfl (any_of HT_.out (by kernel_rfl)) (fun _ _ _ h => h) (Or.inl ⟨by rfl, ?_⟩) ?_ ?_
        rotate_left
        · intro w'
          go_simp
          with_reducible rfl
        rotate_left
        · simp only [Act.put, List.setIfInBounds_toArray, List.set_cons_zero, List.set_cons_succ, i64_w, i32_w]
          rfl
        refine take_ (i := 0) (N := some 56) (v := ?_) (a' := ?_) #[true, true, true, false, false, false, true, false, false, false, false, false] rfl rfl (take_ofW HT_.out HW_.out (by kernel_rfl)) (fun _ _ _ h => h) (Or.inl ⟨by rfl, ?_⟩) hHeld ?_ ?_
        rotate_left
        · rintro w' ⟨s0, s1, s2, s3, s4, s5, s6, s7, s8⟩
          go_simp
          with_reducible rfl
        rotate_left
        · simp only [Act.put, List.setIfInBounds_toArray, List.set_cons_zero, List.set_cons_succ, i64_w, i32_w]
          rfl
        refine take_ (i := 3) (N := some 59) (v := ?_) (a' := ?_) #[true, true, true, true, false, false, true, false, false, false, false, false] rfl rfl (take_ofW HT_.out HW_.out (by kernel_rfl)) (fun _ _ _ h => h) (Or.inl ⟨by rfl, ?_⟩) hHeld ?_ ?_
        rotate_left
        · rintro w' ⟨s0, s1, s2, s3, s4, s5, s6, s7, s8⟩
          go_simp
          with_reducible rfl
        rotate_left
        · simp only [Act.put, List.setIfInBounds_toArray, List.set_cons_zero, List.set_cons_succ, i64_w, i32_w]
          rfl
        refine take_ (i := 5) (N := some 61) (v := ?_) (a' := ?_) #[true, true, true, true, false, true, true, false, false, false, false, false] rfl rfl (take_ofW HT_.out HW_.out (by kernel_rfl)) (fun _ _ _ h => h) (Or.inl ⟨by rfl, ?_⟩) hHeld ?_ ?_
        rotate_left
        · rintro w' ⟨s0, s1, s2, s3, s4, s5, s6, s7, s8⟩
          go_simp
          with_reducible rfl
        rotate_left
        · simp only [Act.put, List.setIfInBounds_toArray, List.set_cons_zero, List.set_cons_succ, i64_w, i32_w]
          rfl
        refine take_ (i := 7) (N := some 63) (v := ?_) (a' := ?_) #[true, true, true, true, false, true, true, true, false, false, false, false] rfl rfl (take_ofW HT_.out HW_.out (by kernel_rfl)) (fun _ _ _ h => h) (Or.inl ⟨by rfl, ?_⟩) hHeld ?_ ?_
        rotate_left
        · rintro w' ⟨s0, s1, s2, s3, s4, s5, s6, s7, s8⟩
          go_simp
          with_reducible rfl
        rotate_left
        · simp only [Act.put, List.setIfInBounds_toArray, List.set_cons_zero, List.set_cons_succ, i64_w, i32_w]
          rfl
        refine one_ (i := 4) (N := some 60) #[true, true, true, true, true, true, true, true, false, false, false, false] rfl rfl (one_of HT_.out (by kernel_rfl)) (by decide) (fun K hK => ?_)
        refine goes_ Try.func40 (by kernel_rfl) rfl #[.pointer (some ⟨g, 0, none⟩), .int .i64 a2_1] (by rfl) rfl rfl q_10 ?_
        with_reducible refine (octet_In_Peek.calls g s0_0 s0_1 s0_2 s0_3 s0_4 a2_1 t383 t384 t385 t386 t387 t388 w0 _ ?side1 ?side2 A62.out).mono ?_
        (case side1 => repeat (first | (with_reducible first | exact HI0.out | apply IsS68.alloc | apply IsS68.drewN | apply IsS68.drew | apply IsS68.set_0 | apply IsS68.set_1 | apply IsS68.set_2 | apply IsS68.set_3 | apply IsS68.set_4 | refine IsS68.far ?_ NB0_353.out _ | apply IsS68.far (hne := NB0_353.out) | refine IsS68.far ?_ NB0_354.out _ | apply IsS68.far (hne := NB0_354.out) | refine IsS68.far ?_ NB0_355.out _ | apply IsS68.far (hne := NB0_355.out)) | exact HI0.out))
        (case side2 => repeat (first | (with_reducible first | exact HB.out | apply below_alloc | apply pw_below_drewN | apply below_drew1 | refine below_set ?_ (IsS68.ge HI0.out) | refine below_set ?_ GE353.out | refine below_set ?_ GE354.out | refine below_set ?_ GE355.out) | exact HB.out))
        rintro e w72 ⟨rfl, hi, hb, hk⟩
        refine ⟨_, rfl, ?_⟩
        have n0_ := Aside0.mk (KeepBut.blk hk (g' := gb353) (o := .cells #[.string a1_0, .int .i64 a1_1, .int .i64 a1_2, .int .i64 a1_3, .int .i64 a1_4] 54 (0, 0)) q_45 NB353_0.out (by simp))
        have n1_ := Aside0.mk (KeepBut.blk hk (g' := gb354) (o := .cells #[.int .i64 a2_0, .int .i64 a2_1, .int .i64 a2_2, .string a2_3] 56 (0, 0)) q_51 NB354_0.out (by simp))
        have n2_ := Aside0.mk (KeepBut.blk hk (g' := gb355) (o := .cells #[.string (⟨#[]⟩ : ByteArray), .int .i64 0, .int .i64 0, .int .i64 0, .int .i64 0] 54 (0, 0)) q_57 NB355_0.out (by simp))
        have n3_ := Aside0.mk (KeepBut.trans q_58 hk (.inl rfl))
        have n4_ := Aside0.mk (hb)
        have n5_ := Aside0.mk (hi)
        clear BK353
        clear BK354
        clear BK355
        clear HK
        clear HB
        clear HI0
        have BK353 := n0_
        have BK354 := n1_
        have BK355 := n2_
        have HK := n3_
        have HB := n4_
        have HI0 := n5_
        clear n0_ n1_ n2_ n3_ n4_ n5_
        (try clear hb)
        (try clear hb2)
        (try clear hk)
        (try clear hi)
        refine hK.out _ _ ⟨(blk_cell BK353.out 0).trans rfl, (blk_cell BK353.out 1).trans rfl, (blk_cell BK353.out 2).trans rfl, (blk_cell BK353.out 3).trans rfl, (blk_cell BK353.out 4).trans rfl, (blk_cell BK354.out 0).trans rfl, (blk_cell BK354.out 1).trans rfl, (blk_cell BK354.out 2).trans rfl, (blk_cell BK354.out 3).trans rfl⟩ (fun hHeld => ?_)
        clear hK K
        refine norm_ (a' := ?_) ?_ ?_
        rotate_left
        · show Act.put _ (some 60) _ = _
          simp only [Act.put, List.setIfInBounds_toArray, List.set_cons_zero, List.set_cons_succ, i64_w, i32_w]
          rfl
        refine one_ (i := 8) (N := some 64) #[true, true, true, true, true, true, true, true, true, false, false, false] rfl rfl (one_of HT_.out (by kernel_rfl)) (by decide) (fun K hK => ?_)
        refine goes_ Try.func49 (by kernel_rfl) rfl #[.agg #[.string a1_0, .int .i64 a1_1, .int .i64 a1_2, .int .i64 a1_3, .int .i64 a1_4], .int .i64 a2_1] (by rfl) rfl rfl q_10 ?_
        with_reducible refine (diacriticref01_Peek.calls k a1_0 a1_1 a1_2 a1_3 a1_4 a2_1 t389 _ A63.out).mono ?_
        rintro e w73 ⟨rfl, hb⟩
        refine ⟨_, rfl, ?_⟩
        have n0_ := Aside0.mk (IsS68.below q_56 hb)
        have n1_ := Aside0.mk (blk_below (g := gb353) (o := .cells #[.string a1_0, .int .i64 a1_1, .int .i64 a1_2, .int .i64 a1_3, .int .i64 a1_4] 54 (0, 0)) q_45 hb)
        have n2_ := Aside0.mk (blk_below (g := gb354) (o := .cells #[.int .i64 a2_0, .int .i64 a2_1, .int .i64 a2_2, .string a2_3] 56 (0, 0)) q_51 hb)
        have n3_ := Aside0.mk (blk_below (g := gb355) (o := .cells #[.string (⟨#[]⟩ : ByteArray), .int .i64 0, .int .i64 0, .int .i64 0, .int .i64 0] 54 (0, 0)) q_57 hb)
        have n4_ := Aside0.mk (KeepBut.trans q_58 (KeepBut.of_below hb g none) (.inl rfl))
        have n5_ := Aside0.mk (below_step q_59 hb)
        clear HI0
        clear BK353
        clear BK354
        clear BK355
        clear HK
        clear HB
        have HI0 := n0_
        have BK353 := n1_
        have BK354 := n2_
        have BK355 := n3_
        have HK := n4_
        have HB := n5_
        clear n0_ n1_ n2_ n3_ n4_ n5_
        (try clear hb)
        (try clear hb2)
        (try clear hk)
        (try clear hi)
        refine hK.out _ _ ⟨(blk_cell BK353.out 0).trans rfl, (blk_cell BK353.out 1).trans rfl, (blk_cell BK353.out 2).trans rfl, (blk_cell BK353.out 3).trans rfl, (blk_cell BK353.out 4).trans rfl, (blk_cell BK354.out 0).trans rfl, (blk_cell BK354.out 1).trans rfl, (blk_cell BK354.out 2).trans rfl, (blk_cell BK354.out 3).trans rfl⟩ (fun hHeld => ?_)
        clear hK K
        refine norm_ (a' := ?_) ?_ ?_
        rotate_left
        · show Act.put _ (some 64) _ = _
          simp only [Act.put, List.setIfInBounds_toArray, List.set_cons_zero, List.set_cons_succ, i64_w, i32_w]
          rfl
        refine pure_ (i := 9) (N := some 65) (v := ?_) (a' := ?_) #[true, true, true, true, true, true, true, true, true, true, false, false] rfl rfl (any_of HT_.out (by kernel_rfl)) (fun _ _ _ h => h) (Or.inl ⟨by rfl, ?_⟩) ?_ ?_
        rotate_left
        · intro w'
          go_simp
          with_reducible rfl
        rotate_left
        · simp only [Act.put, List.setIfInBounds_toArray, List.set_cons_zero, List.set_cons_succ, i64_w, i32_w]
          rfl
        refine one_ (i := 10) (N := none) #[true, true, true, true, true, true, true, true, true, true, true, false] rfl rfl (one_of HT_.out (by kernel_rfl)) (by decide) (fun K hK => ?_)
        have hs74 : w73.cell? ⟨gb355, 0, none⟩ = some (.string (⟨#[]⟩ : ByteArray)) := (blk_cell BK355.out 0).trans rfl
        have hfs74 := blk_frozen BK355.out 0
        have hns74_0 := NB353_355.out
        have hns74_1 := NB354_355.out
        have hms74_0 := NB355_353.out
        have hms74_1 := NB355_354.out
        have hs75 : w73.cell? ⟨gb355, 1, none⟩ = some (.int .i64 0) := (blk_cell BK355.out 1).trans rfl
        have hfs75 := blk_frozen BK355.out 1
        have hns75_0 := NB353_355.out
        have hns75_1 := NB354_355.out
        have hms75_0 := NB355_353.out
        have hms75_1 := NB355_354.out
        have hs76 : w73.cell? ⟨gb355, 2, none⟩ = some (.int .i64 0) := (blk_cell BK355.out 2).trans rfl
        have hfs76 := blk_frozen BK355.out 2
        have hns76_0 := NB353_355.out
        have hns76_1 := NB354_355.out
        have hms76_0 := NB355_353.out
        have hms76_1 := NB355_354.out
        have hs77 : w73.cell? ⟨gb355, 3, none⟩ = some (.int .i64 0) := (blk_cell BK355.out 3).trans rfl
        have hfs77 := blk_frozen BK355.out 3
        have hns77_0 := NB353_355.out
        have hns77_1 := NB354_355.out
        have hms77_0 := NB355_353.out
        have hms77_1 := NB355_354.out
        have hs78 : w73.cell? ⟨gb355, 4, none⟩ = some (.int .i64 0) := (blk_cell BK355.out 4).trans rfl
        have hfs78 := blk_frozen BK355.out 4
        have hns78_0 := NB353_355.out
        have hns78_1 := NB354_355.out
        have hms78_0 := NB355_353.out
        have hms78_1 := NB355_354.out
        refine skip_ (w1 := ?_) (by rfl) rfl ?_ ?_
        rotate_left
        · go_simp
          rfl
        refine hK.out _ _ ⟨((cell_far (p := ⟨gb355, _, none⟩) NB353_355.out _).trans (((cell_far (p := ⟨gb355, _, none⟩) NB353_355.out _).trans (((cell_far (p := ⟨gb355, _, none⟩) NB353_355.out _).trans (((cell_far (p := ⟨gb355, _, none⟩) NB353_355.out _).trans (((cell_far (p := ⟨gb355, _, none⟩) NB353_355.out _).trans (hHeld.1)))))))))), ((cell_far (p := ⟨gb355, _, none⟩) NB353_355.out _).trans (((cell_far (p := ⟨gb355, _, none⟩) NB353_355.out _).trans (((cell_far (p := ⟨gb355, _, none⟩) NB353_355.out _).trans (((cell_far (p := ⟨gb355, _, none⟩) NB353_355.out _).trans (((cell_far (p := ⟨gb355, _, none⟩) NB353_355.out _).trans (hHeld.2.1)))))))))), ((cell_far (p := ⟨gb355, _, none⟩) NB353_355.out _).trans (((cell_far (p := ⟨gb355, _, none⟩) NB353_355.out _).trans (((cell_far (p := ⟨gb355, _, none⟩) NB353_355.out _).trans (((cell_far (p := ⟨gb355, _, none⟩) NB353_355.out _).trans (((cell_far (p := ⟨gb355, _, none⟩) NB353_355.out _).trans (hHeld.2.2.1)))))))))), ((cell_far (p := ⟨gb355, _, none⟩) NB353_355.out _).trans (((cell_far (p := ⟨gb355, _, none⟩) NB353_355.out _).trans (((cell_far (p := ⟨gb355, _, none⟩) NB353_355.out _).trans (((cell_far (p := ⟨gb355, _, none⟩) NB353_355.out _).trans (((cell_far (p := ⟨gb355, _, none⟩) NB353_355.out _).trans (hHeld.2.2.2.1)))))))))), ((cell_far (p := ⟨gb355, _, none⟩) NB353_355.out _).trans (((cell_far (p := ⟨gb355, _, none⟩) NB353_355.out _).trans (((cell_far (p := ⟨gb355, _, none⟩) NB353_355.out _).trans (((cell_far (p := ⟨gb355, _, none⟩) NB353_355.out _).trans (((cell_far (p := ⟨gb355, _, none⟩) NB353_355.out _).trans (hHeld.2.2.2.2.1)))))))))), ((cell_far (p := ⟨gb355, _, none⟩) NB354_355.out _).trans (((cell_far (p := ⟨gb355, _, none⟩) NB354_355.out _).trans (((cell_far (p := ⟨gb355, _, none⟩) NB354_355.out _).trans (((cell_far (p := ⟨gb355, _, none⟩) NB354_355.out _).trans (((cell_far (p := ⟨gb355, _, none⟩) NB354_355.out _).trans (hHeld.2.2.2.2.2.1)))))))))), ((cell_far (p := ⟨gb355, _, none⟩) NB354_355.out _).trans (((cell_far (p := ⟨gb355, _, none⟩) NB354_355.out _).trans (((cell_far (p := ⟨gb355, _, none⟩) NB354_355.out _).trans (((cell_far (p := ⟨gb355, _, none⟩) NB354_355.out _).trans (((cell_far (p := ⟨gb355, _, none⟩) NB354_355.out _).trans (hHeld.2.2.2.2.2.2.1)))))))))), ((cell_far (p := ⟨gb355, _, none⟩) NB354_355.out _).trans (((cell_far (p := ⟨gb355, _, none⟩) NB354_355.out _).trans (((cell_far (p := ⟨gb355, _, none⟩) NB354_355.out _).trans (((cell_far (p := ⟨gb355, _, none⟩) NB354_355.out _).trans (((cell_far (p := ⟨gb355, _, none⟩) NB354_355.out _).trans (hHeld.2.2.2.2.2.2.2.1)))))))))), ((cell_far (p := ⟨gb355, _, none⟩) NB354_355.out _).trans (((cell_far (p := ⟨gb355, _, none⟩) NB354_355.out _).trans (((cell_far (p := ⟨gb355, _, none⟩) NB354_355.out _).trans (((cell_far (p := ⟨gb355, _, none⟩) NB354_355.out _).trans (((cell_far (p := ⟨gb355, _, none⟩) NB354_355.out _).trans (hHeld.2.2.2.2.2.2.2.2))))))))))⟩ (fun hHeld => ?_)
        clear hK K
        refine pure_ (i := 11) (N := some 7) (v := ?_) (a' := ?_) #[true, true, true, true, true, true, true, true, true, true, true, true] rfl rfl (any_of HT_.out (by kernel_rfl)) (fun _ _ _ h => h) (Or.inl ⟨by rfl, ?_⟩) ?_ ?_
        rotate_left
        · intro w'
          go_simp
          with_reducible rfl
        rotate_left
        · simp only [Act.put, List.setIfInBounds_toArray, List.set_cons_zero, List.set_cons_succ, i64_w, i32_w]
          rfl
        refine done_ (done_of HT_.out (by kernel_rfl)) ?_
        try go_wp2
        refine bodyPost_ret (results_ct rfl _ _ gb355 54 #[.string a1_0, .int .i64 a1_1, .int .i64 a1_2, .int .i64 a1_3, .int .i64 a1_4] (0, 0) _ rfl (by (with_reducible repeat (first | refine blk_drewN ?_ _ | refine blk_drew ?_ | refine blk_alloc ?_ _)); refine blk_put (cs := #[.string a1_0, .int .i64 a1_1, .int .i64 a1_2, .int .i64 a1_3, .int .i64 0]) ?_ 4 _ rfl; (with_reducible repeat (first | refine blk_drewN ?_ _ | refine blk_drew ?_ | refine blk_alloc ?_ _)); refine blk_put (cs := #[.string a1_0, .int .i64 a1_1, .int .i64 a1_2, .int .i64 0, .int .i64 0]) ?_ 3 _ rfl; (with_reducible repeat (first | refine blk_drewN ?_ _ | refine blk_drew ?_ | refine blk_alloc ?_ _)); refine blk_put (cs := #[.string a1_0, .int .i64 a1_1, .int .i64 0, .int .i64 0, .int .i64 0]) ?_ 2 _ rfl; (with_reducible repeat (first | refine blk_drewN ?_ _ | refine blk_drew ?_ | refine blk_alloc ?_ _)); refine blk_put (cs := #[.string a1_0, .int .i64 0, .int .i64 0, .int .i64 0, .int .i64 0]) ?_ 1 _ rfl; (with_reducible repeat (first | refine blk_drewN ?_ _ | refine blk_drew ?_ | refine blk_alloc ?_ _)); refine blk_put (cs := #[.string (⟨#[]⟩ : ByteArray), .int .i64 0, .int .i64 0, .int .i64 0, .int .i64 0]) ?_ 0 _ rfl; (with_reducible repeat (first | refine blk_drewN ?_ _ | refine blk_drew ?_ | refine blk_alloc ?_ _)); exact BK355.out) Try.underlying54 rfl (by kernel_rfl)) rfl ?_
        exact ⟨q_9, q_56, q_59, q_58⟩
      · exact absurd (show a2_0 = 2 by have h_ := hcs_.out; omega) c61
end Go.Proofs.Ytkcckhlkaknggaa.PAll
