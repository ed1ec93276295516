/- Written by a program of this session: functions of the Go program as Lean functions, and the walks that tie them to it. -/
import Derived.Test.YtkcckhlkaknggaaPAllx15b
namespace Go.Proofs.Ytkcckhlkaknggaa.PAll
open Go.RowKit Go.Proofs.YtkcckhlkaknggaaW.PrintWords Go.Proofs.YtkcckhlkaknggaaW.PrintLast Go.Proofs.YtkcckhlkaknggaaW.PrintMore
attribute [local go_sem] max2_int min2_int max_two min_two max_three min_three max_four min_four   -- for this text's walks alone
set_option linter.unusedVariables false
set_option linter.unusedSimpArgs false
set_option maxHeartbeats 8000000 in
set_option maxRecDepth 100000 in
theorem diacriticlaw01_do.case4 (k : Nat) (g : Nat) (s0_0 : ByteArray) (s0_1 : Int) (s0_2 : Int) (s0_3 : Int) (s0_4 : Int) (a1_0 : ByteArray) (a1_1 : Int) (a1_2 : Int) (a1_3 : Int) (a1_4 : Int) (a2_0 : Int) (a2_1 : Int) (a2_2 : Int) (a2_3 : ByteArray) (r1 : ByteArray) (r2 : Int) (r3 : Int) (r4 : Int) (r5 : Int) (r6 : Bool) (r7 : ByteArray) (r8 : Int) (r9 : Int) (r10 : Int) (r11 : Int) (w0 w : World) (hI : IsS68 w0 w g s0_0 s0_1 s0_2 s0_3 s0_4) (hB : Below w0.heap.size w0 w) (hcs_ : Aside0 (a2_0 = 4)) (h : diacriticlaw01_do.f k s0_0 s0_1 s0_2 s0_3 s0_4 a1_0 a1_1 a1_2 a1_3 a1_4 a2_0 a2_1 a2_2 a2_3 = some (r1, r2, r3, r4, r5, r6, r7, r8, r9, r10, r11)) :
    Calls Try.prog 34 #[.pointer (some ⟨g, 0, none⟩), .agg #[.string a1_0, .int .i64 a1_1, .int .i64 a1_2, .int .i64 a1_3, .int .i64 a1_4], .agg #[.int .i64 a2_0, .int .i64 a2_1, .int .i64 a2_2, .string a2_3]] w fun e w' => e = .returned (.tuple #[.agg #[.string r1, .int .i64 r2, .int .i64 r3, .int .i64 r4, .int .i64 r5], .bool r6]) ∧ IsS68 w0 w' g r7 r8 r9 r10 r11 ∧ Below w0.heap.size w0 w' ∧ KeepBut w w' g none := by
  have hu54 := Try.underlying54
  have hu56 := Try.underlying56
  have HI0 := Aside0.mk hI
  have HK := Aside0.mk (KeepBut.refl w g none)
  have HL := Aside0.mk hB.size
  clear hI
  have HW0 := Aside0.mk hB.size
  have HB := Aside0.mk hB
  clear hB
  have H : (if a2_0 = 0 then ((diacriticref01_Take.f a1_0 a1_1 a1_2 a1_3 a1_4 a2_1).bind fun bt356 => ((octet_In_Take.f s0_0 s0_1 s0_2 s0_3 s0_4 a2_1).bind fun bt363 => (some (bt356.1, bt356.2.1, bt356.2.2.1, bt356.2.2.2.1, bt356.2.2.2.2.1, (bt363.1.toList == bt356.2.2.2.2.2.toList), bt363.2.1, bt363.2.2.1, bt363.2.2.2.1, bt363.2.2.2.2.1, bt363.2.2.2.2.2)))) else (if a2_0 = 1 then ((diacriticref01_Left.f a1_0 a1_1 a1_2 a1_3 a1_4).bind fun t369 => ((diacriticref01_Take.f a1_0 a1_1 a1_2 a1_3 a1_4 t369).bind fun bt370 => ((octet_In_Rest.f s0_0 s0_1 s0_2 s0_3 s0_4).bind fun bt377 => (some (bt370.1, bt370.2.1, bt370.2.2.1, bt370.2.2.2.1, bt370.2.2.2.2.1, (bt377.1.toList == bt370.2.2.2.2.2.toList), bt377.2.1, bt377.2.2.1, bt377.2.2.2.1, bt377.2.2.2.2.1, bt377.2.2.2.2.2))))) else (if a2_0 = 2 then ((octet_In_Peek.f s0_0 s0_1 s0_2 s0_3 s0_4 a2_1).bind fun bt383 => ((diacriticref01_Peek.f k a1_0 a1_1 a1_2 a1_3 a1_4 a2_1).bind fun t389 => (some (a1_0, a1_1, a1_2, a1_3, a1_4, (bt383.1.toList == t389.toList), bt383.2.1, bt383.2.2.1, bt383.2.2.2.1, bt383.2.2.2.2.1, bt383.2.2.2.2.2)))) else (if a2_0 = 3 then ((diacriticref01_Size.f a2_1).bind fun t390 => ((diacriticref01_Take.f a1_0 a1_1 a1_2 a1_3 a1_4 t390).bind fun bt391 => ((octet_In_Big.f s0_0 s0_1 s0_2 s0_3 s0_4 a2_1).bind fun bt398 => ((diacriticref01_Number.f k bt391.2.2.2.2.2).bind fun t404 => (some (bt391.1, bt391.2.1, bt391.2.2.1, bt391.2.2.2.1, bt391.2.2.2.2.1, (bt398.1 == t404), bt398.2.1, bt398.2.2.1, bt398.2.2.2.1, bt398.2.2.2.2.1, bt398.2.2.2.2.2)))))) else (if a2_0 = 4 then ((diacriticref01_Size.f a2_1).bind fun t405 => ((diacriticref01_Take.f a1_0 a1_1 a1_2 a1_3 a1_4 t405).bind fun bt406 => ((octet_In_Small.f s0_0 s0_1 s0_2 s0_3 s0_4 a2_1).bind fun bt413 => ((diacriticref01_Back.f k bt406.2.2.2.2.2).bind fun t419 => ((diacriticref01_Number.f k t419).bind fun t420 => (some (bt406.1, bt406.2.1, bt406.2.2.1, bt406.2.2.2.1, bt406.2.2.2.2.1, (bt413.1 == t420), bt413.2.1, bt413.2.2.1, bt413.2.2.2.1, bt413.2.2.2.2.1, bt413.2.2.2.2.2))))))) else (if a2_0 = 5 then ((diacriticref01_ReadSafe.f k a1_0 a1_1 a1_2 a1_3 a1_4).bind fun bt421 => ((octet_In_Safe.f s0_0 s0_1 s0_2 s0_3 s0_4).bind fun bt428 => (some (bt421.1, bt421.2.1, bt421.2.2.1, bt421.2.2.2.1, bt421.2.2.2.2.1, (bt428.1 == bt421.2.2.2.2.2), bt428.2.1, bt428.2.2.1, bt428.2.2.2.1, bt428.2.2.2.2.1, bt428.2.2.2.2.2)))) else (if a2_0 = 6 then ((diacriticref01_Want.f k a1_0 a1_1 a1_2 a1_3 a1_4 a2_3).bind fun bt434 => ((octet_In_Want.f k s0_0 s0_1 s0_2 s0_3 s0_4 a2_3).bind fun bt441 => (some (bt434.1, bt434.2.1, bt434.2.2.1, bt434.2.2.2.1, bt434.2.2.2.2.1, (bt441.1 == bt434.2.2.2.2.2), bt441.2.1, bt441.2.2.1, bt441.2.2.2.1, bt441.2.2.2.2.1, bt441.2.2.2.2.2)))) else (if a2_0 = 7 then ((diacriticref01_Until.f k a1_0 a1_1 a1_2 a1_3 a1_4 a2_3).bind fun bt447 => ((octet_In_Until.f s0_0 s0_1 s0_2 s0_3 s0_4 a2_3).bind fun bt454 => (some (bt447.1, bt447.2.1, bt447.2.2.1, bt447.2.2.2.1, bt447.2.2.2.2.1, (bt454.1.toList == bt447.2.2.2.2.2.toList), bt454.2.1, bt454.2.2.1, bt454.2.2.2.1, bt454.2.2.2.2.1, bt454.2.2.2.2.2)))) else (if a2_0 = 8 then ((octet_In_Fail.f s0_0 s0_1 s0_2 s0_3 s0_4 a2_2 a2_1).bind fun bt460 => ((diacriticref01_Fail.f a1_0 a1_1 a1_2 a1_3 a1_4 a2_2 a2_1).bind fun bt465 => (some (bt465.1, bt465.2.1, bt465.2.2.1, bt465.2.2.2.1, bt465.2.2.2.2, true, bt460.1, bt460.2.1, bt460.2.2.1, bt460.2.2.2.1, bt460.2.2.2.2)))) else (some (a1_0, a1_1, a1_2, a1_3, a1_4, true, s0_0, s0_1, s0_2, s0_3, s0_4))))))))))) = some (r1, r2, r3, r4, r5, r6, r7, r8, r9, r10, r11) := h
  clear h
  by_cases c4 : a2_0 = 0
  · exact absurd c4 (by have h_ := hcs_.out; omega)
  · rw [if_neg c4] at H
    have c4b0 : (a2_0 == 0) = false := beq_eq_false_iff_ne.mpr c4
    have c4b1 : (a2_0 != 0) = true := bne_iff_ne.mpr c4
    by_cases c32 : a2_0 = 1
    · exact absurd c32 (by have h_ := hcs_.out; omega)
    · rw [if_neg c32] at H
      have c32b0 : (a2_0 == 1) = false := beq_eq_false_iff_ne.mpr c32
      have c32b1 : (a2_0 != 1) = true := bne_iff_ne.mpr c32
      by_cases c61 : a2_0 = 2
      · exact absurd c61 (by have h_ := hcs_.out; omega)
      · rw [if_neg c61] at H
        have c61b0 : (a2_0 == 2) = false := beq_eq_false_iff_ne.mpr c61
        have c61b1 : (a2_0 != 2) = true := bne_iff_ne.mpr c61
        by_cases c79 : a2_0 = 3
        · exact absurd c79 (by have h_ := hcs_.out; omega)
        · rw [if_neg c79] at H
          have c79b0 : (a2_0 == 3) = false := beq_eq_false_iff_ne.mpr c79
          have c79b1 : (a2_0 != 3) = true := bne_iff_ne.mpr c79
          by_cases c108 : a2_0 = 4
          · rw [if_pos c108] at H
            have c108b0 : (a2_0 == 4) = true := beq_iff_eq.mpr c108
            have c108b1 : (a2_0 != 4) = false := bne_eq_false_iff_eq.mpr c108
            clear c108
            replace H := Option.bind_eq_some_iff.mp H
            obtain ⟨t405, A1090, H⟩ := H
            replace H : ((diacriticref01_Take.f a1_0 a1_1 a1_2 a1_3 a1_4 t405).bind fun bt406 => ((octet_In_Small.f s0_0 s0_1 s0_2 s0_3 s0_4 a2_1).bind fun bt413 => ((diacriticref01_Back.f k bt406.2.2.2.2.2).bind fun t419 => ((diacriticref01_Number.f k t419).bind fun t420 => (some (bt406.1, bt406.2.1, bt406.2.2.1, bt406.2.2.2.1, bt406.2.2.2.2.1, (bt413.1 == t420), bt413.2.1, bt413.2.2.1, bt413.2.2.2.1, bt413.2.2.2.2.1, bt413.2.2.2.2.2)))))) = some (r1, r2, r3, r4, r5, r6, r7, r8, r9, r10, r11) := H
            have A109 := Aside0.mk A1090
            clear A1090
            replace H := Option.bind_eq_some_iff.mp H
            obtain ⟨⟨t406, t407, t408, t409, t410, t411⟩, A1100, H⟩ := H
            replace H : ((octet_In_Small.f s0_0 s0_1 s0_2 s0_3 s0_4 a2_1).bind fun bt413 => ((diacriticref01_Back.f k t411).bind fun t419 => ((diacriticref01_Number.f k t419).bind fun t420 => (some (t406, t407, t408, t409, t410, (bt413.1 == t420), bt413.2.1, bt413.2.2.1, bt413.2.2.2.1, bt413.2.2.2.2.1, bt413.2.2.2.2.2))))) = some (r1, r2, r3, r4, r5, r6, r7, r8, r9, r10, r11) := H
            have A110 := Aside0.mk A1100
            clear A1100
            replace H := Option.bind_eq_some_iff.mp H
            obtain ⟨⟨t413, t414, t415, t416, t417, t418⟩, A1110, H⟩ := H
            replace H : ((diacriticref01_Back.f k t411).bind fun t419 => ((diacriticref01_Number.f k t419).bind fun t420 => (some (t406, t407, t408, t409, t410, (t413 == t420), t414, t415, t416, t417, t418)))) = some (r1, r2, r3, r4, r5, r6, r7, r8, r9, r10, r11) := H
            have A111 := Aside0.mk A1110
            clear A1110
            replace H := Option.bind_eq_some_iff.mp H
            obtain ⟨t419, A1120, H⟩ := H
            replace H : ((diacriticref01_Number.f k t419).bind fun t420 => (some (t406, t407, t408, t409, t410, (t413 == t420), t414, t415, t416, t417, t418))) = some (r1, r2, r3, r4, r5, r6, r7, r8, r9, r10, r11) := H
            have A112 := Aside0.mk A1120
            clear A1120
            replace H := Option.bind_eq_some_iff.mp H
            obtain ⟨t420, A1130, H⟩ := H
            replace H : (some (t406, t407, t408, t409, t410, (t413 == t420), t414, t415, t416, t417, t418)) = some (r1, r2, r3, r4, r5, r6, r7, r8, r9, r10, r11) := H
            have A113 := Aside0.mk A1130
            clear A1130
            simp only [Option.some.injEq, Prod.mk.injEq] at H
            obtain ⟨rfl, rfl, rfl, rfl, rfl, rfl, rfl, rfl, rfl, rfl, rfl⟩ := H
            go_enter Try.func34, Try.ntmps34
            try go_wp2_with (first | ((with_reducible refine gate_dst (N := 4) rfl ?_); refine box_event ?hg (N := 4) ?hd (cs := #[.string a1_0, .int .i64 a1_1, .int .i64 a1_2, .int .i64 a1_3, .int .i64 a1_4]) (t := 54) ?hr ?_; (case hd => rfl); (case hg => rfl); (case hr => first | (go_simp; done) | (go_simp; rfl)); intro gb353 hg w114 hbox hb; have n0_ := Aside0.mk (IsS68.below q_2 hb); have n1_ := Aside0.mk (KeepBut.trans q_3 (KeepBut.of_below hb g none) (.inl rfl)); have n2_ := Aside0.mk (below_step q_4 hb); have n3_ := Aside0.mk (hbox); have n4_ := Aside0.mk ((q_101 : w.heap.size ≤ gb353)); have n5_ := Aside0.mk ((Nat.le_trans HW0.out (q_101 : w.heap.size ≤ gb353) : w0.heap.size ≤ gb353)); have n6_ := Aside0.mk ((q_5 : g ≠ gb353)); have n7_ := Aside0.mk ((q_6 : gb353 ≠ g)); clear HI0; clear HK; clear HB; have HI0 := n0_; have HK := n1_; have HB := n2_; have BK353 := n3_; have GW353 := n4_; have GE353 := n5_; have NB0_353 := n6_; have NB353_0 := n7_; clear n0_ n1_ n2_ n3_ n4_ n5_ n6_ n7_; clear hb hbox hg) | ((with_reducible refine gate_dst (N := 5) rfl ?_); refine box_event ?hg (N := 5) ?hd (cs := #[.int .i64 a2_0, .int .i64 a2_1, .int .i64 a2_2, .string a2_3]) (t := 56) ?hr ?_; (case hd => rfl); (case hg => rfl); (case hr => first | (go_simp; done) | (go_simp; rfl)); intro gb354 hg w115 hbox hb; have n0_ := Aside0.mk (IsS68.below q_44 hb); have n1_ := Aside0.mk (blk_below (g := gb353) (o := .cells #[.string a1_0, .int .i64 a1_1, .int .i64 a1_2, .int .i64 a1_3, .int .i64 a1_4] 54 (0, 0)) q_45 hb); have n2_ := Aside0.mk (KeepBut.trans q_46 (KeepBut.of_below hb g none) (.inl rfl)); have n3_ := Aside0.mk (below_step q_47 hb); have n4_ := Aside0.mk (hbox); have n5_ := Aside0.mk ((q_108 : w.heap.size ≤ gb354)); have n6_ := Aside0.mk ((Nat.le_trans HW0.out (q_108 : w.heap.size ≤ gb354) : w0.heap.size ≤ gb354)); have n7_ := Aside0.mk ((q_109 : gb353 ≠ gb354)); have n8_ := Aside0.mk ((q_110 : gb354 ≠ gb353)); have n9_ := Aside0.mk ((q_48 : g ≠ gb354)); have n10_ := Aside0.mk ((q_49 : gb354 ≠ g)); clear HI0; clear BK353; clear HK; clear HB; have HI0 := n0_; have BK353 := n1_; have HK := n2_; have HB := n3_; have BK354 := n4_; have GW354 := n5_; have GE354 := n6_; have NB353_354 := n7_; have NB354_353 := n8_; have NB0_354 := n9_; have NB354_0 := n10_; clear n0_ n1_ n2_ n3_ n4_ n5_ n6_ n7_ n8_ n9_ n10_; clear hb hbox hg) | ((with_reducible refine gate_dst (N := 6) rfl ?_); refine box_event ?hg (N := 6) ?hd (cs := #[.string (⟨#[]⟩ : ByteArray), .int .i64 0, .int .i64 0, .int .i64 0, .int .i64 0]) (t := 54) ?hr ?_; (case hd => rfl); (case hg => rfl); (case hr => first | (go_simp; done) | (go_simp; rfl)); intro gb355 hg w116 hbox hb; have n0_ := Aside0.mk (IsS68.below q_50 hb); have n1_ := Aside0.mk (blk_below (g := gb353) (o := .cells #[.string a1_0, .int .i64 a1_1, .int .i64 a1_2, .int .i64 a1_3, .int .i64 a1_4] 54 (0, 0)) q_45 hb); have n2_ := Aside0.mk (blk_below (g := gb354) (o := .cells #[.int .i64 a2_0, .int .i64 a2_1, .int .i64 a2_2, .string a2_3] 56 (0, 0)) q_51 hb); have n3_ := Aside0.mk (KeepBut.trans q_52 (KeepBut.of_below hb g none) (.inl rfl)); have n4_ := Aside0.mk (below_step q_53 hb); have n5_ := Aside0.mk (hbox); have n6_ := Aside0.mk ((q_111 : w.heap.size ≤ gb355)); have n7_ := Aside0.mk ((Nat.le_trans HW0.out (q_111 : w.heap.size ≤ gb355) : w0.heap.size ≤ gb355)); have n8_ := Aside0.mk ((q_109 : gb353 ≠ gb355)); have n9_ := Aside0.mk ((q_110 : gb355 ≠ gb353)); have n10_ := Aside0.mk ((q_112 : gb354 ≠ gb355)); have n11_ := Aside0.mk ((q_113 : gb355 ≠ gb354)); have n12_ := Aside0.mk ((q_54 : g ≠ gb355)); have n13_ := Aside0.mk ((q_55 : gb355 ≠ g)); clear HI0; clear BK353; clear BK354; clear HK; clear HB; have HI0 := n0_; have BK353 := n1_; have BK354 := n2_; have HK := n3_; have HB := n4_; have BK355 := n5_; have GW355 := n6_; have GE355 := n7_; have NB353_355 := n8_; have NB355_353 := n9_; have NB354_355 := n10_; have NB355_354 := n11_; have NB0_355 := n12_; have NB355_0 := n13_; clear n0_ n1_ n2_ n3_ n4_ n5_ n6_ n7_ n8_ n9_ n10_ n11_ n12_ n13_; clear hb hbox hg; have hnb117 := NB354_353.out; have hnc117 := NB353_354.out; have hnb118 := NB354_355.out; have hnc118 := NB355_354.out; have hnb119 := NB354_0.out; have hnc119 := NB0_354.out; obtain ⟨hcz120_0, hcz120_1, hcz120_2, hcz120_3, hfz120_0, hfz120_1, hfz120_2, hfz120_3⟩ := cells4_ BK354.out))
            have n0_ := Aside0.mk (blk_drew BK353.out)
            have n1_ := Aside0.mk (blk_drew BK354.out)
            have n2_ := Aside0.mk (blk_drew BK355.out)
            have n3_ := Aside0.mk (IsS68.drew HI0.out)
            have n4_ := Aside0.mk (keep_drew HK.out)
            have n5_ := Aside0.mk (below_drew1 HB.out)
            clear BK353
            clear BK354
            clear BK355
            clear HI0
            clear HK
            clear HB
            have BK353 := n0_
            have BK354 := n1_
            have BK355 := n2_
            have HI0 := n3_
            have HK := n4_
            have HB := n5_
            clear n0_ n1_ n2_ n3_ n4_ n5_
            refine start_ (n := 11) (S := fun w' => w'.cell? ⟨gb353, 0, none⟩ = some (.string a1_0) ∧ w'.cell? ⟨gb353, 1, none⟩ = some (.int .i64 a1_1) ∧ w'.cell? ⟨gb353, 2, none⟩ = some (.int .i64 a1_2) ∧ w'.cell? ⟨gb353, 3, none⟩ = some (.int .i64 a1_3) ∧ w'.cell? ⟨gb353, 4, none⟩ = some (.int .i64 a1_4) ∧ w'.cell? ⟨gb354, 0, none⟩ = some (.int .i64 a2_0) ∧ w'.cell? ⟨gb354, 1, none⟩ = some (.int .i64 a2_1) ∧ w'.cell? ⟨gb354, 2, none⟩ = some (.int .i64 a2_2) ∧ w'.cell? ⟨gb354, 3, none⟩ = some (.string a2_3)) (ds := []) #[false, false, false, false, false, false, false, false, false, false, false] (by kernel_rfl) rfl rfl ⟨(blk_cell BK353.out 0).trans rfl, (blk_cell BK353.out 1).trans rfl, (blk_cell BK353.out 2).trans rfl, (blk_cell BK353.out 3).trans rfl, (blk_cell BK353.out 4).trans rfl, (blk_cell BK354.out 0).trans rfl, (blk_cell BK354.out 1).trans rfl, (blk_cell BK354.out 2).trans rfl, (blk_cell BK354.out 3).trans rfl⟩ (fun hHeld => ?_); refine with_tabW diacriticlaw01_do.tab14 diacriticlaw01_do.bits14 (fun HT_ HW_ => ?_)
            generalize w116.drew = w121 at BK353 BK354 BK355 HI0 HK HB hHeld ⊢
            refine pure_ (i := 1) (N := some 88) (v := ?_) (a' := ?_) #[false, true, false, false, false, false, false, false, false, false, false] rfl rfl (any_of HT_.out (by kernel_rfl)) (fun _ _ _ h => h) (Or.inl ⟨by rfl, ?_⟩) ?_ ?_
            rotate_left
            · intro w'
              go_simp
              with_reducible rfl
            rotate_left
            · simp only [Act.put, List.setIfInBounds_toArray, List.set_cons_zero, List.set_cons_succ, i64_w, i32_w]
              rfl
            refine take_ (i := 0) (N := some 87) (v := ?_) (a' := ?_) #[true, true, false, false, false, false, false, false, false, false, false] rfl rfl (take_ofW HT_.out HW_.out (by kernel_rfl)) (fun _ _ _ h => h) (Or.inl ⟨by rfl, ?_⟩) hHeld ?_ ?_
            rotate_left
            · rintro w' ⟨s0, s1, s2, s3, s4, s5, s6, s7, s8⟩
              go_simp
              with_reducible rfl
            rotate_left
            · simp only [Act.put, List.setIfInBounds_toArray, List.set_cons_zero, List.set_cons_succ, i64_w, i32_w]
              rfl
            refine take_ (i := 2) (N := some 89) (v := ?_) (a' := ?_) #[true, true, true, false, false, false, false, false, false, false, false] rfl rfl (take_ofW HT_.out HW_.out (by kernel_rfl)) (fun _ _ _ h => h) (Or.inl ⟨by rfl, ?_⟩) hHeld ?_ ?_
            rotate_left
            · rintro w' ⟨s0, s1, s2, s3, s4, s5, s6, s7, s8⟩
              go_simp
              with_reducible rfl
            rotate_left
            · simp only [Act.put, List.setIfInBounds_toArray, List.set_cons_zero, List.set_cons_succ, i64_w, i32_w]
              rfl
            refine join_ (σ := Nat) 2 #[true, true, true, true, true, true, true, true, true, false, false] (fun s_ => [(90, .int .i64 t405), (91, .tuple #[.agg #[.string t406, .int .i64 t407, .int .i64 t408, .int .i64 t409, .int .i64 t410], .string t411]), (14, .pointer (some ⟨s_, 0, none⟩)), (86, .tuple #[.agg #[.string t406, .int .i64 t407, .int .i64 t408, .int .i64 t409, .int .i64 t410], .string t411]), (92, .agg #[.string t406, .int .i64 t407, .int .i64 t408, .int .i64 t409, .int .i64 t410]), (93, .string t411)]) (fun s_ w' => (w'.cell? ⟨gb353, 0, none⟩ = some (.string a1_0) ∧ w'.cell? ⟨gb353, 1, none⟩ = some (.int .i64 a1_1) ∧ w'.cell? ⟨gb353, 2, none⟩ = some (.int .i64 a1_2) ∧ w'.cell? ⟨gb353, 3, none⟩ = some (.int .i64 a1_3) ∧ w'.cell? ⟨gb353, 4, none⟩ = some (.int .i64 a1_4) ∧ w'.cell? ⟨gb354, 0, none⟩ = some (.int .i64 a2_0) ∧ w'.cell? ⟨gb354, 1, none⟩ = some (.int .i64 a2_1) ∧ w'.cell? ⟨gb354, 2, none⟩ = some (.int .i64 a2_2) ∧ w'.cell? ⟨gb354, 3, none⟩ = some (.string a2_3)) ∧ (w'.heap[gb353]? = some (.cells #[.string a1_0, .int .i64 a1_1, .int .i64 a1_2, .int .i64 a1_3, .int .i64 a1_4] 54 (0, 0))) ∧ (w'.heap[gb354]? = some (.cells #[.int .i64 a2_0, .int .i64 a2_1, .int .i64 a2_2, .string a2_3] 56 (0, 0))) ∧ (w'.heap[gb355]? = some (.cells #[.string (⟨#[]⟩ : ByteArray), .int .i64 0, .int .i64 0, .int .i64 0, .int .i64 0] 54 (0, 0))) ∧ (w'.heap[s_]? = some (.cells #[.string (⟨#[]⟩ : ByteArray), .int .i64 0, .int .i64 0, .int .i64 0, .int .i64 0] 54 (0, 0))) ∧ (w.heap.size ≤ s_) ∧ (w0.heap.size ≤ s_) ∧ (g ≠ s_) ∧ (s_ ≠ g) ∧ (gb353 ≠ s_) ∧ (s_ ≠ gb353) ∧ (gb354 ≠ s_) ∧ (s_ ≠ gb354) ∧ (gb355 ≠ s_) ∧ (s_ ≠ gb355) ∧ (IsS68 w0 w' g s0_0 s0_1 s0_2 s0_3 s0_4) ∧ (KeepBut w w' g none) ∧ (Below w0.heap.size w0 w')) ?_ ?_
            rotate_left
            · intro hCont
              refine two_ (i := 3) (j := 8) (Ni := some 90) (Nj := some 14) #[true, true, true, true, false, false, false, false, false, false, false] #[true, true, true, false, false, false, false, false, true, false, false] rfl rfl rfl rfl (two_of HT_.out (by kernel_rfl)) (by decide) (by decide) (fun K hK => ?_) (fun K hK => ?_)
              · skip
                refine goes_ Try.func26 (by kernel_rfl) rfl #[.int .i64 a2_1] (by rfl) rfl rfl q_10 ?_
                with_reducible refine (diacriticref01_Size.calls a2_1 t405 _ A109.out).mono ?_
                rintro e w' ⟨rfl, ⟨nd, rfl⟩⟩
                refine ⟨_, rfl, ?_⟩
                refine hK.out _ _ ⟨(blk_cell BK353.out 0).trans rfl, (blk_cell BK353.out 1).trans rfl, (blk_cell BK353.out 2).trans rfl, (blk_cell BK353.out 3).trans rfl, (blk_cell BK353.out 4).trans rfl, (blk_cell BK354.out 0).trans rfl, (blk_cell BK354.out 1).trans rfl, (blk_cell BK354.out 2).trans rfl, (blk_cell BK354.out 3).trans rfl⟩ (fun hHeld => ?_)
                clear hK K
                refine norm_ (a' := ?_) ?_ ?_
                rotate_left
                · show Act.put _ (some 90) _ = _
                  simp only [Act.put, List.setIfInBounds_toArray, List.set_cons_zero, List.set_cons_succ, i64_w, i32_w]
                  rfl
                refine two_ (i := 4) (j := 8) (Ni := some 91) (Nj := some 14) #[true, true, true, true, true, false, false, false, false, false, false] #[true, true, true, true, false, false, false, false, true, false, false] rfl rfl rfl rfl (two_of HT_.out (by kernel_rfl)) (by decide) (by decide) (fun K hK => ?_) (fun K hK => ?_)
                · skip
                  refine goes_ Try.func48 (by kernel_rfl) rfl #[.agg #[.string a1_0, .int .i64 a1_1, .int .i64 a1_2, .int .i64 a1_3, .int .i64 a1_4], .int .i64 t405] (by rfl) rfl rfl q_10 ?_
                  with_reducible refine (diacriticref01_Take.calls a1_0 a1_1 a1_2 a1_3 a1_4 t405 t406 t407 t408 t409 t410 t411 _ A110.out).mono ?_
                  rintro e w122 ⟨rfl, hb⟩
                  refine ⟨_, rfl, ?_⟩
                  have n0_ := Aside0.mk (IsS68.below q_56 hb)
                  have n1_ := Aside0.mk (blk_below (g := gb353) (o := .cells #[.string a1_0, .int .i64 a1_1, .int .i64 a1_2, .int .i64 a1_3, .int .i64 a1_4] 54 (0, 0)) q_45 hb)
                  have n2_ := Aside0.mk (blk_below (g := gb354) (o := .cells #[.int .i64 a2_0, .int .i64 a2_1, .int .i64 a2_2, .string a2_3] 56 (0, 0)) q_51 hb)
                  have n3_ := Aside0.mk (blk_below (g := gb355) (o := .cells #[.string (⟨#[]⟩ : ByteArray), .int .i64 0, .int .i64 0, .int .i64 0, .int .i64 0] 54 (0, 0)) q_57 hb)
                  have n4_ := Aside0.mk (KeepBut.trans q_58 (KeepBut.of_below hb g none) (.inl rfl))
                  have n5_ := Aside0.mk (below_step q_59 hb)
                  clear HI0
                  clear BK353
                  clear BK354
                  clear BK355
                  clear HK
                  clear HB
                  have HI0 := n0_
                  have BK353 := n1_
                  have BK354 := n2_
                  have BK355 := n3_
                  have HK := n4_
                  have HB := n5_
                  clear n0_ n1_ n2_ n3_ n4_ n5_
                  (try clear hb)
                  (try clear hb2)
                  (try clear hk)
                  (try clear hi)
                  refine hK.out _ _ ⟨(blk_cell BK353.out 0).trans rfl, (blk_cell BK353.out 1).trans rfl, (blk_cell BK353.out 2).trans rfl, (blk_cell BK353.out 3).trans rfl, (blk_cell BK353.out 4).trans rfl, (blk_cell BK354.out 0).trans rfl, (blk_cell BK354.out 1).trans rfl, (blk_cell BK354.out 2).trans rfl, (blk_cell BK354.out 3).trans rfl⟩ (fun hHeld => ?_)
                  clear hK K
                  refine norm_ (a' := ?_) ?_ ?_
                  rotate_left
                  · show Act.put _ (some 91) _ = _
                    simp only [Act.put, List.setIfInBounds_toArray, List.set_cons_zero, List.set_cons_succ, i64_w, i32_w]
                    rfl
                  refine pure_ (i := 5) (N := some 86) (v := ?_) (a' := ?_) #[true, true, true, true, true, true, false, false, false, false, false] rfl rfl (any_of HT_.out (by kernel_rfl)) (fun _ _ _ h => h) (Or.inl ⟨by rfl, ?_⟩) ?_ ?_
                  rotate_left
                  · intro w'
                    go_simp
                    with_reducible rfl
                  rotate_left
                  · simp only [Act.put, List.setIfInBounds_toArray, List.set_cons_zero, List.set_cons_succ, i64_w, i32_w]
                    rfl
                  refine pure_ (i := 6) (N := some 92) (v := ?_) (a' := ?_) #[true, true, true, true, true, true, true, false, false, false, false] rfl rfl (any_of HT_.out (by kernel_rfl)) (fun _ _ _ h => h) (Or.inl ⟨by rfl, ?_⟩) ?_ ?_
                  rotate_left
                  · intro w'
                    go_simp
                    with_reducible rfl
                  rotate_left
                  · simp only [Act.put, List.setIfInBounds_toArray, List.set_cons_zero, List.set_cons_succ, i64_w, i32_w]
                    rfl
                  refine pure_ (i := 7) (N := some 93) (v := ?_) (a' := ?_) #[true, true, true, true, true, true, true, true, false, false, false] rfl rfl (any_of HT_.out (by kernel_rfl)) (fun _ _ _ h => h) (Or.inl ⟨by rfl, ?_⟩) ?_ ?_
                  rotate_left
                  · intro w'
                    go_simp
                    with_reducible rfl
                  rotate_left
                  · simp only [Act.put, List.setIfInBounds_toArray, List.set_cons_zero, List.set_cons_succ, i64_w, i32_w]
                    rfl
                  refine one_ (i := 8) (N := some 14) #[true, true, true, true, true, true, true, true, true, false, false] rfl rfl (one_of HT_.out (by kernel_rfl)) (by decide) (fun K hK => ?_)
                  refine box_step ?hg (N := 14) ?hd (cs := #[.string (⟨#[]⟩ : ByteArray), .int .i64 0, .int .i64 0, .int .i64 0, .int .i64 0]) (t := 54) ?hr ?_; (case hd => rfl); (case hg => rfl); (case hr => first | (go_simp; done) | (go_simp; rfl))
                  intro gb412 hg w123 hbox hb
                  have n0_ := Aside0.mk (IsS68.below q_56 hb)
                  have n1_ := Aside0.mk (blk_below (g := gb353) (o := .cells #[.string a1_0, .int .i64 a1_1, .int .i64 a1_2, .int .i64 a1_3, .int .i64 a1_4] 54 (0, 0)) q_45 hb)
                  have n2_ := Aside0.mk (blk_below (g := gb354) (o := .cells #[.int .i64 a2_0, .int .i64 a2_1, .int .i64 a2_2, .string a2_3] 56 (0, 0)) q_51 hb)
                  have n3_ := Aside0.mk (blk_below (g := gb355) (o := .cells #[.string (⟨#[]⟩ : ByteArray), .int .i64 0, .int .i64 0, .int .i64 0, .int .i64 0] 54 (0, 0)) q_57 hb)
                  have n4_ := Aside0.mk (KeepBut.trans q_58 (KeepBut.of_below hb g none) (.inl rfl))
                  have n5_ := Aside0.mk (below_step q_59 hb)
                  have n6_ := Aside0.mk (hbox)
                  have n7_ := Aside0.mk ((q_114 : w.heap.size ≤ gb412))
                  have n8_ := Aside0.mk ((Nat.le_trans HW0.out (q_114 : w.heap.size ≤ gb412) : w0.heap.size ≤ gb412))
                  have n9_ := Aside0.mk ((q_109 : gb353 ≠ gb412))
                  have n10_ := Aside0.mk ((q_110 : gb412 ≠ gb353))
                  have n11_ := Aside0.mk ((q_112 : gb354 ≠ gb412))
                  have n12_ := Aside0.mk ((q_113 : gb412 ≠ gb354))
                  have n13_ := Aside0.mk ((q_115 : gb355 ≠ gb412))
                  have n14_ := Aside0.mk ((q_116 : gb412 ≠ gb355))
                  have n15_ := Aside0.mk ((q_60 : g ≠ gb412))
                  have n16_ := Aside0.mk ((q_61 : gb412 ≠ g))
                  clear HI0
                  clear BK353
                  clear BK354
                  clear BK355
                  clear HK
                  clear HB
                  have HI0 := n0_
                  have BK353 := n1_
                  have BK354 := n2_
                  have BK355 := n3_
                  have HK := n4_
                  have HB := n5_
                  have BK412 := n6_
                  have GW412 := n7_
                  have GE412 := n8_
                  have NB353_412 := n9_
                  have NB412_353 := n10_
                  have NB354_412 := n11_
                  have NB412_354 := n12_
                  have NB355_412 := n13_
                  have NB412_355 := n14_
                  have NB0_412 := n15_
                  have NB412_0 := n16_
                  clear n0_ n1_ n2_ n3_ n4_ n5_ n6_ n7_ n8_ n9_ n10_ n11_ n12_ n13_ n14_ n15_ n16_
                  clear hb hbox hg
                  refine hK.out _ _ ⟨(blk_cell BK353.out 0).trans rfl, (blk_cell BK353.out 1).trans rfl, (blk_cell BK353.out 2).trans rfl, (blk_cell BK353.out 3).trans rfl, (blk_cell BK353.out 4).trans rfl, (blk_cell BK354.out 0).trans rfl, (blk_cell BK354.out 1).trans rfl, (blk_cell BK354.out 2).trans rfl, (blk_cell BK354.out 3).trans rfl⟩ (fun hHeld => ?_)
                  clear hK K
                  refine norm_ (a' := ?_) ?_ ?_
                  rotate_left
                  · show Act.put _ (some 14) _ = _
                    simp only [Act.put, List.setIfInBounds_toArray, List.set_cons_zero, List.set_cons_succ, i64_w, i32_w]
                    rfl
                  exact norm_ q_65 (hCont (gb412) _ ⟨hHeld, q_45, q_51, q_57, q_74, GW412.out, GE412.out, NB0_412.out, NB412_0.out, NB353_412.out, NB412_353.out, NB354_412.out, NB412_354.out, NB355_412.out, NB412_355.out, q_75, q_76, q_77⟩)
                · skip
                  refine box_step ?hg (N := 14) ?hd (cs := #[.string (⟨#[]⟩ : ByteArray), .int .i64 0, .int .i64 0, .int .i64 0, .int .i64 0]) (t := 54) ?hr ?_; (case hd => rfl); (case hg => rfl); (case hr => first | (go_simp; done) | (go_simp; rfl))
                  intro gb412 hg w122 hbox hb
                  have n0_ := Aside0.mk (IsS68.below q_56 hb)
                  have n1_ := Aside0.mk (blk_below (g := gb353) (o := .cells #[.string a1_0, .int .i64 a1_1, .int .i64 a1_2, .int .i64 a1_3, .int .i64 a1_4] 54 (0, 0)) q_45 hb)
                  have n2_ := Aside0.mk (blk_below (g := gb354) (o := .cells #[.int .i64 a2_0, .int .i64 a2_1, .int .i64 a2_2, .string a2_3] 56 (0, 0)) q_51 hb)
                  have n3_ := Aside0.mk (blk_below (g := gb355) (o := .cells #[.string (⟨#[]⟩ : ByteArray), .int .i64 0, .int .i64 0, .int .i64 0, .int .i64 0] 54 (0, 0)) q_57 hb)
                  have n4_ := Aside0.mk (KeepBut.trans q_58 (KeepBut.of_below hb g none) (.inl rfl))
                  have n5_ := Aside0.mk (below_step q_59 hb)
                  have n6_ := Aside0.mk (hbox)
                  have n7_ := Aside0.mk ((q_114 : w.heap.size ≤ gb412))
                  have n8_ := Aside0.mk ((Nat.le_trans HW0.out (q_114 : w.heap.size ≤ gb412) : w0.heap.size ≤ gb412))
                  have n9_ := Aside0.mk ((q_109 : gb353 ≠ gb412))
                  have n10_ := Aside0.mk ((q_110 : gb412 ≠ gb353))
                  have n11_ := Aside0.mk ((q_112 : gb354 ≠ gb412))
                  have n12_ := Aside0.mk ((q_113 : gb412 ≠ gb354))
                  have n13_ := Aside0.mk ((q_115 : gb355 ≠ gb412))
                  have n14_ := Aside0.mk ((q_116 : gb412 ≠ gb355))
                  have n15_ := Aside0.mk ((q_60 : g ≠ gb412))
                  have n16_ := Aside0.mk ((q_61 : gb412 ≠ g))
                  clear HI0
                  clear BK353
                  clear BK354
                  clear BK355
                  clear HK
                  clear HB
                  have HI0 := n0_
                  have BK353 := n1_
                  have BK354 := n2_
                  have BK355 := n3_
                  have HK := n4_
                  have HB := n5_
                  have BK412 := n6_
                  have GW412 := n7_
                  have GE412 := n8_
                  have NB353_412 := n9_
                  have NB412_353 := n10_
                  have NB354_412 := n11_
                  have NB412_354 := n12_
                  have NB355_412 := n13_
                  have NB412_355 := n14_
                  have NB0_412 := n15_
                  have NB412_0 := n16_
                  clear n0_ n1_ n2_ n3_ n4_ n5_ n6_ n7_ n8_ n9_ n10_ n11_ n12_ n13_ n14_ n15_ n16_
                  clear hb hbox hg
                  refine hK.out _ _ ⟨(blk_cell BK353.out 0).trans rfl, (blk_cell BK353.out 1).trans rfl, (blk_cell BK353.out 2).trans rfl, (blk_cell BK353.out 3).trans rfl, (blk_cell BK353.out 4).trans rfl, (blk_cell BK354.out 0).trans rfl, (blk_cell BK354.out 1).trans rfl, (blk_cell BK354.out 2).trans rfl, (blk_cell BK354.out 3).trans rfl⟩ (fun hHeld => ?_)
                  clear hK K
                  refine norm_ (a' := ?_) ?_ ?_
                  rotate_left
                  · show Act.put _ (some 14) _ = _
                    simp only [Act.put, List.setIfInBounds_toArray, List.set_cons_zero, List.set_cons_succ, i64_w, i32_w]
                    rfl
                  refine one_ (i := 4) (N := some 91) #[true, true, true, true, true, false, false, false, true, false, false] rfl rfl (one_of HT_.out (by kernel_rfl)) (by decide) (fun K hK => ?_)
                  refine goes_ Try.func48 (by kernel_rfl) rfl #[.agg #[.string a1_0, .int .i64 a1_1, .int .i64 a1_2, .int .i64 a1_3, .int .i64 a1_4], .int .i64 t405] (by rfl) rfl rfl q_10 ?_
                  with_reducible refine (diacriticref01_Take.calls a1_0 a1_1 a1_2 a1_3 a1_4 t405 t406 t407 t408 t409 t410 t411 _ A110.out).mono ?_
                  rintro e w123 ⟨rfl, hb⟩
                  refine ⟨_, rfl, ?_⟩
                  have n0_ := Aside0.mk (IsS68.below q_75 hb)
                  have n1_ := Aside0.mk (blk_below (g := gb353) (o := .cells #[.string a1_0, .int .i64 a1_1, .int .i64 a1_2, .int .i64 a1_3, .int .i64 a1_4] 54 (0, 0)) q_45 hb)
                  have n2_ := Aside0.mk (blk_below (g := gb354) (o := .cells #[.int .i64 a2_0, .int .i64 a2_1, .int .i64 a2_2, .string a2_3] 56 (0, 0)) q_51 hb)
                  have n3_ := Aside0.mk (blk_below (g := gb355) (o := .cells #[.string (⟨#[]⟩ : ByteArray), .int .i64 0, .int .i64 0, .int .i64 0, .int .i64 0] 54 (0, 0)) q_57 hb)
                  have n4_ := Aside0.mk (blk_below (g := gb412) (o := .cells #[.string (⟨#[]⟩ : ByteArray), .int .i64 0, .int .i64 0, .int .i64 0, .int .i64 0] 54 (0, 0)) q_74 hb)
                  have n5_ := Aside0.mk (KeepBut.trans q_76 (KeepBut.of_below hb g none) (.inl rfl))
                  have n6_ := Aside0.mk (below_step q_77 hb)
                  clear HI0
                  clear BK353
                  clear BK354
                  clear BK355
                  clear BK412
                  clear HK
                  clear HB
                  have HI0 := n0_
                  have BK353 := n1_
                  have BK354 := n2_
                  have BK355 := n3_
                  have BK412 := n4_
                  have HK := n5_
                  have HB := n6_
                  clear n0_ n1_ n2_ n3_ n4_ n5_ n6_
                  (try clear hb)
                  (try clear hb2)
                  (try clear hk)
                  (try clear hi)
                  refine hK.out _ _ ⟨(blk_cell BK353.out 0).trans rfl, (blk_cell BK353.out 1).trans rfl, (blk_cell BK353.out 2).trans rfl, (blk_cell BK353.out 3).trans rfl, (blk_cell BK353.out 4).trans rfl, (blk_cell BK354.out 0).trans rfl, (blk_cell BK354.out 1).trans rfl, (blk_cell BK354.out 2).trans rfl, (blk_cell BK354.out 3).trans rfl⟩ (fun hHeld => ?_)
                  clear hK K
                  refine norm_ (a' := ?_) ?_ ?_
                  rotate_left
                  · show Act.put _ (some 91) _ = _
                    simp only [Act.put, List.setIfInBounds_toArray, List.set_cons_zero, List.set_cons_succ, i64_w, i32_w]
                    rfl
                  refine pure_ (i := 5) (N := some 86) (v := ?_) (a' := ?_) #[true, true, true, true, true, true, false, false, true, false, false] rfl rfl (any_of HT_.out (by kernel_rfl)) (fun _ _ _ h => h) (Or.inl ⟨by rfl, ?_⟩) ?_ ?_
                  rotate_left
                  · intro w'
                    go_simp
                    with_reducible rfl
                  rotate_left
                  · simp only [Act.put, List.setIfInBounds_toArray, List.set_cons_zero, List.set_cons_succ, i64_w, i32_w]
                    rfl
                  refine pure_ (i := 6) (N := some 92) (v := ?_) (a' := ?_) #[true, true, true, true, true, true, true, false, true, false, false] rfl rfl (any_of HT_.out (by kernel_rfl)) (fun _ _ _ h => h) (Or.inl ⟨by rfl, ?_⟩) ?_ ?_
                  rotate_left
                  · intro w'
                    go_simp
                    with_reducible rfl
                  rotate_left
                  · simp only [Act.put, List.setIfInBounds_toArray, List.set_cons_zero, List.set_cons_succ, i64_w, i32_w]
                    rfl
                  refine pure_ (i := 7) (N := some 93) (v := ?_) (a' := ?_) #[true, true, true, true, true, true, true, true, true, false, false] rfl rfl (any_of HT_.out (by kernel_rfl)) (fun _ _ _ h => h) (Or.inl ⟨by rfl, ?_⟩) ?_ ?_
                  rotate_left
                  · intro w'
                    go_simp
                    with_reducible rfl
                  rotate_left
                  · simp only [Act.put, List.setIfInBounds_toArray, List.set_cons_zero, List.set_cons_succ, i64_w, i32_w]
                    rfl
                  exact norm_ q_65 (hCont (gb412) _ ⟨hHeld, q_45, q_51, q_57, q_74, GW412.out, GE412.out, NB0_412.out, NB412_0.out, NB353_412.out, NB412_353.out, NB354_412.out, NB412_354.out, NB355_412.out, NB412_355.out, q_75, q_76, q_77⟩)
              · skip
                refine box_step ?hg (N := 14) ?hd (cs := #[.string (⟨#[]⟩ : ByteArray), .int .i64 0, .int .i64 0, .int .i64 0, .int .i64 0]) (t := 54) ?hr ?_; (case hd => rfl); (case hg => rfl); (case hr => first | (go_simp; done) | (go_simp; rfl))
                intro gb412 hg w122 hbox hb
                have n0_ := Aside0.mk (IsS68.below q_56 hb)
                have n1_ := Aside0.mk (blk_below (g := gb353) (o := .cells #[.string a1_0, .int .i64 a1_1, .int .i64 a1_2, .int .i64 a1_3, .int .i64 a1_4] 54 (0, 0)) q_45 hb)
                have n2_ := Aside0.mk (blk_below (g := gb354) (o := .cells #[.int .i64 a2_0, .int .i64 a2_1, .int .i64 a2_2, .string a2_3] 56 (0, 0)) q_51 hb)
                have n3_ := Aside0.mk (blk_below (g := gb355) (o := .cells #[.string (⟨#[]⟩ : ByteArray), .int .i64 0, .int .i64 0, .int .i64 0, .int .i64 0] 54 (0, 0)) q_57 hb)
                have n4_ := Aside0.mk (KeepBut.trans q_58 (KeepBut.of_below hb g none) (.inl rfl))
                have n5_ := Aside0.mk (below_step q_59 hb)
                have n6_ := Aside0.mk (hbox)
                have n7_ := Aside0.mk ((q_114 : w.heap.size ≤ gb412))
                have n8_ := Aside0.mk ((Nat.le_trans HW0.out (q_114 : w.heap.size ≤ gb412) : w0.heap.size ≤ gb412))
                have n9_ := Aside0.mk ((q_109 : gb353 ≠ gb412))
                have n10_ := Aside0.mk ((q_110 : gb412 ≠ gb353))
                have n11_ := Aside0.mk ((q_112 : gb354 ≠ gb412))
                have n12_ := Aside0.mk ((q_113 : gb412 ≠ gb354))
                have n13_ := Aside0.mk ((q_115 : gb355 ≠ gb412))
                have n14_ := Aside0.mk ((q_116 : gb412 ≠ gb355))
                have n15_ := Aside0.mk ((q_60 : g ≠ gb412))
                have n16_ := Aside0.mk ((q_61 : gb412 ≠ g))
                clear HI0
                clear BK353
                clear BK354
                clear BK355
                clear HK
                clear HB
                have HI0 := n0_
                have BK353 := n1_
                have BK354 := n2_
                have BK355 := n3_
                have HK := n4_
                have HB := n5_
                have BK412 := n6_
                have GW412 := n7_
                have GE412 := n8_
                have NB353_412 := n9_
                have NB412_353 := n10_
                have NB354_412 := n11_
                have NB412_354 := n12_
                have NB355_412 := n13_
                have NB412_355 := n14_
                have NB0_412 := n15_
                have NB412_0 := n16_
                clear n0_ n1_ n2_ n3_ n4_ n5_ n6_ n7_ n8_ n9_ n10_ n11_ n12_ n13_ n14_ n15_ n16_
                clear hb hbox hg
                refine hK.out _ _ ⟨(blk_cell BK353.out 0).trans rfl, (blk_cell BK353.out 1).trans rfl, (blk_cell BK353.out 2).trans rfl, (blk_cell BK353.out 3).trans rfl, (blk_cell BK353.out 4).trans rfl, (blk_cell BK354.out 0).trans rfl, (blk_cell BK354.out 1).trans rfl, (blk_cell BK354.out 2).trans rfl, (blk_cell BK354.out 3).trans rfl⟩ (fun hHeld => ?_)
                clear hK K
                refine norm_ (a' := ?_) ?_ ?_
                rotate_left
                · show Act.put _ (some 14) _ = _
                  simp only [Act.put, List.setIfInBounds_toArray, List.set_cons_zero, List.set_cons_succ, i64_w, i32_w]
                  rfl
                refine one_ (i := 3) (N := some 90) #[true, true, true, true, false, false, false, false, true, false, false] rfl rfl (one_of HT_.out (by kernel_rfl)) (by decide) (fun K hK => ?_)
                refine goes_ Try.func26 (by kernel_rfl) rfl #[.int .i64 a2_1] (by rfl) rfl rfl q_10 ?_
                with_reducible refine (diacriticref01_Size.calls a2_1 t405 _ A109.out).mono ?_
                rintro e w' ⟨rfl, ⟨nd, rfl⟩⟩
                refine ⟨_, rfl, ?_⟩
                refine hK.out _ _ ⟨(blk_cell BK353.out 0).trans rfl, (blk_cell BK353.out 1).trans rfl, (blk_cell BK353.out 2).trans rfl, (blk_cell BK353.out 3).trans rfl, (blk_cell BK353.out 4).trans rfl, (blk_cell BK354.out 0).trans rfl, (blk_cell BK354.out 1).trans rfl, (blk_cell BK354.out 2).trans rfl, (blk_cell BK354.out 3).trans rfl⟩ (fun hHeld => ?_)
                clear hK K
                refine norm_ (a' := ?_) ?_ ?_
                rotate_left
                · show Act.put _ (some 90) _ = _
                  simp only [Act.put, List.setIfInBounds_toArray, List.set_cons_zero, List.set_cons_succ, i64_w, i32_w]
                  rfl
                refine one_ (i := 4) (N := some 91) #[true, true, true, true, true, false, false, false, true, false, false] rfl rfl (one_of HT_.out (by kernel_rfl)) (by decide) (fun K hK => ?_)
                refine goes_ Try.func48 (by kernel_rfl) rfl #[.agg #[.string a1_0, .int .i64 a1_1, .int .i64 a1_2, .int .i64 a1_3, .int .i64 a1_4], .int .i64 t405] (by rfl) rfl rfl q_10 ?_
                with_reducible refine (diacriticref01_Take.calls a1_0 a1_1 a1_2 a1_3 a1_4 t405 t406 t407 t408 t409 t410 t411 _ A110.out).mono ?_
                rintro e w123 ⟨rfl, hb⟩
                refine ⟨_, rfl, ?_⟩
                have n0_ := Aside0.mk (IsS68.below q_75 hb)
                have n1_ := Aside0.mk (blk_below (g := gb353) (o := .cells #[.string a1_0, .int .i64 a1_1, .int .i64 a1_2, .int .i64 a1_3, .int .i64 a1_4] 54 (0, 0)) q_45 hb)
                have n2_ := Aside0.mk (blk_below (g := gb354) (o := .cells #[.int .i64 a2_0, .int .i64 a2_1, .int .i64 a2_2, .string a2_3] 56 (0, 0)) q_51 hb)
                have n3_ := Aside0.mk (blk_below (g := gb355) (o := .cells #[.string (⟨#[]⟩ : ByteArray), .int .i64 0, .int .i64 0, .int .i64 0, .int .i64 0] 54 (0, 0)) q_57 hb)
                have n4_ := Aside0.mk (blk_below (g := gb412) (o := .cells #[.string (⟨#[]⟩ : ByteArray), .int .i64 0, .int .i64 0, .int .i64 0, .int .i64 0] 54 (0, 0)) q_74 hb)
                have n5_ := Aside0.mk (KeepBut.trans q_76 (KeepBut.of_below hb g none) (.inl rfl))
                have n6_ := Aside0.mk (below_step q_77 hb)
                clear HI0
                clear BK353
                clear BK354
                clear BK355
                clear BK412
                clear HK
                clear HB
                have HI0 := n0_
                have BK353 := n1_
                have BK354 := n2_
                have BK355 := n3_
                have BK412 := n4_
                have HK := n5_
                have HB := n6_
                clear n0_ n1_ n2_ n3_ n4_ n5_ n6_
                (try clear hb)
                (try clear hb2)
                (try clear hk)
                (try clear hi)
                refine hK.out _ _ ⟨(blk_cell BK353.out 0).trans rfl, (blk_cell BK353.out 1).trans rfl, (blk_cell BK353.out 2).trans rfl, (blk_cell BK353.out 3).trans rfl, (blk_cell BK353.out 4).trans rfl, (blk_cell BK354.out 0).trans rfl, (blk_cell BK354.out 1).trans rfl, (blk_cell BK354.out 2).trans rfl, (blk_cell BK354.out 3).trans rfl⟩ (fun hHeld => ?_)
                clear hK K
                refine norm_ (a' := ?_) ?_ ?_
                rotate_left
                · show Act.put _ (some 91) _ = _
                  simp only [Act.put, List.setIfInBounds_toArray, List.set_cons_zero, List.set_cons_succ, i64_w, i32_w]
                  rfl
                refine pure_ (i := 5) (N := some 86) (v := ?_) (a' := ?_) #[true, true, true, true, true, true, false, false, true, false, false] rfl rfl (any_of HT_.out (by kernel_rfl)) (fun _ _ _ h => h) (Or.inl ⟨by rfl, ?_⟩) ?_ ?_
                rotate_left
                · intro w'
                  go_simp
                  with_reducible rfl
                rotate_left
                · simp only [Act.put, List.setIfInBounds_toArray, List.set_cons_zero, List.set_cons_succ, i64_w, i32_w]
                  rfl
                refine pure_ (i := 6) (N := some 92) (v := ?_) (a' := ?_) #[true, true, true, true, true, true, true, false, true, false, false] rfl rfl (any_of HT_.out (by kernel_rfl)) (fun _ _ _ h => h) (Or.inl ⟨by rfl, ?_⟩) ?_ ?_
                rotate_left
                · intro w'
                  go_simp
                  with_reducible rfl
                rotate_left
                · simp only [Act.put, List.setIfInBounds_toArray, List.set_cons_zero, List.set_cons_succ, i64_w, i32_w]
                  rfl
                refine pure_ (i := 7) (N := some 93) (v := ?_) (a' := ?_) #[true, true, true, true, true, true, true, true, true, false, false] rfl rfl (any_of HT_.out (by kernel_rfl)) (fun _ _ _ h => h) (Or.inl ⟨by rfl, ?_⟩) ?_ ?_
                rotate_left
                · intro w'
                  go_simp
                  with_reducible rfl
                rotate_left
                · simp only [Act.put, List.setIfInBounds_toArray, List.set_cons_zero, List.set_cons_succ, i64_w, i32_w]
                  rfl
                exact norm_ q_65 (hCont (gb412) _ ⟨hHeld, q_45, q_51, q_57, q_74, GW412.out, GE412.out, NB0_412.out, NB412_0.out, NB353_412.out, NB412_353.out, NB354_412.out, NB412_354.out, NB355_412.out, NB412_355.out, q_75, q_76, q_77⟩)
            rintro gb412 w124 ⟨hS_, h0_, h1_, h2_, h3_, h4_, h5_, h6_, h7_, h8_, h9_, h10_, h11_, h12_, h13_, h14_, h15_, h16_⟩
            have n0_ : Aside0 (w124.heap[gb353]? = some (.cells #[.string a1_0, .int .i64 a1_1, .int .i64 a1_2, .int .i64 a1_3, .int .i64 a1_4] 54 (0, 0))) := ⟨h0_⟩
            have n1_ : Aside0 (w124.heap[gb354]? = some (.cells #[.int .i64 a2_0, .int .i64 a2_1, .int .i64 a2_2, .string a2_3] 56 (0, 0))) := ⟨h1_⟩
            have n2_ : Aside0 (w124.heap[gb355]? = some (.cells #[.string (⟨#[]⟩ : ByteArray), .int .i64 0, .int .i64 0, .int .i64 0, .int .i64 0] 54 (0, 0))) := ⟨h2_⟩
            have n3_ : Aside0 (w124.heap[gb412]? = some (.cells #[.string (⟨#[]⟩ : ByteArray), .int .i64 0, .int .i64 0, .int .i64 0, .int .i64 0] 54 (0, 0))) := ⟨h3_⟩
            have n4_ : Aside0 (w.heap.size ≤ gb412) := ⟨h4_⟩
            have n5_ : Aside0 (w0.heap.size ≤ gb412) := ⟨h5_⟩
            have n6_ : Aside0 (g ≠ gb412) := ⟨h6_⟩
            have n7_ : Aside0 (gb412 ≠ g) := ⟨h7_⟩
            have n8_ : Aside0 (gb353 ≠ gb412) := ⟨h8_⟩
            have n9_ : Aside0 (gb412 ≠ gb353) := ⟨h9_⟩
            have n10_ : Aside0 (gb354 ≠ gb412) := ⟨h10_⟩
            have n11_ : Aside0 (gb412 ≠ gb354) := ⟨h11_⟩
            have n12_ : Aside0 (gb355 ≠ gb412) := ⟨h12_⟩
            have n13_ : Aside0 (gb412 ≠ gb355) := ⟨h13_⟩
            have n14_ : Aside0 (IsS68 w0 w124 g s0_0 s0_1 s0_2 s0_3 s0_4) := ⟨h14_⟩
            have n15_ : Aside0 (KeepBut w w124 g none) := ⟨h15_⟩
            have n16_ : Aside0 (Below w0.heap.size w0 w124) := ⟨h16_⟩
            clear BK353
            clear BK354
            clear BK355
            clear HI0
            clear HK
            clear HB
            clear h0_ h1_ h2_ h3_ h4_ h5_ h6_ h7_ h8_ h9_ h10_ h11_ h12_ h13_ h14_ h15_ h16_
            have BK353 := n0_
            have BK354 := n1_
            have BK355 := n2_
            have BK412 := n3_
            have GW412 := n4_
            have GE412 := n5_
            have NB0_412 := n6_
            have NB412_0 := n7_
            have NB353_412 := n8_
            have NB412_353 := n9_
            have NB354_412 := n10_
            have NB412_354 := n11_
            have NB355_412 := n12_
            have NB412_355 := n13_
            have HI0 := n14_
            have HK := n15_
            have HB := n16_
            clear n0_ n1_ n2_ n3_ n4_ n5_ n6_ n7_ n8_ n9_ n10_ n11_ n12_ n13_ n14_ n15_ n16_
            have hHeld : w124.cell? ⟨gb353, 0, none⟩ = some (.string a1_0) ∧ w124.cell? ⟨gb353, 1, none⟩ = some (.int .i64 a1_1) ∧ w124.cell? ⟨gb353, 2, none⟩ = some (.int .i64 a1_2) ∧ w124.cell? ⟨gb353, 3, none⟩ = some (.int .i64 a1_3) ∧ w124.cell? ⟨gb353, 4, none⟩ = some (.int .i64 a1_4) ∧ w124.cell? ⟨gb354, 0, none⟩ = some (.int .i64 a2_0) ∧ w124.cell? ⟨gb354, 1, none⟩ = some (.int .i64 a2_1) ∧ w124.cell? ⟨gb354, 2, none⟩ = some (.int .i64 a2_2) ∧ w124.cell? ⟨gb354, 3, none⟩ = some (.string a2_3) := hS_
            refine norm_ (a' := ?_) ?_ ?_
            rotate_left
            · simp only [putAll, Act.put, List.setIfInBounds_toArray, List.set_cons_zero, List.set_cons_succ]
              rfl
            refine one_ (i := 9) (N := none) #[true, true, true, true, true, true, true, true, true, true, false] rfl rfl (one_of HT_.out (by kernel_rfl)) (by decide) (fun K hK => ?_)
            have hs125 : w124.cell? ⟨gb412, 0, none⟩ = some (.string (⟨#[]⟩ : ByteArray)) := (blk_cell BK412.out 0).trans rfl
            have hfs125 := blk_frozen BK412.out 0
            have hns125_0 := NB353_412.out
            have hns125_1 := NB354_412.out
            have hns125_2 := NB355_412.out
            have hms125_0 := NB412_353.out
            have hms125_1 := NB412_354.out
            have hms125_2 := NB412_355.out
            have hs126 : w124.cell? ⟨gb412, 1, none⟩ = some (.int .i64 0) := (blk_cell BK412.out 1).trans rfl
            have hfs126 := blk_frozen BK412.out 1
            have hns126_0 := NB353_412.out
            have hns126_1 := NB354_412.out
            have hns126_2 := NB355_412.out
            have hms126_0 := NB412_353.out
            have hms126_1 := NB412_354.out
            have hms126_2 := NB412_355.out
            have hs127 : w124.cell? ⟨gb412, 2, none⟩ = some (.int .i64 0) := (blk_cell BK412.out 2).trans rfl
            have hfs127 := blk_frozen BK412.out 2
            have hns127_0 := NB353_412.out
            have hns127_1 := NB354_412.out
            have hns127_2 := NB355_412.out
            have hms127_0 := NB412_353.out
            have hms127_1 := NB412_354.out
            have hms127_2 := NB412_355.out
            have hs128 : w124.cell? ⟨gb412, 3, none⟩ = some (.int .i64 0) := (blk_cell BK412.out 3).trans rfl
            have hfs128 := blk_frozen BK412.out 3
            have hns128_0 := NB353_412.out
            have hns128_1 := NB354_412.out
            have hns128_2 := NB355_412.out
            have hms128_0 := NB412_353.out
            have hms128_1 := NB412_354.out
            have hms128_2 := NB412_355.out
            have hs129 : w124.cell? ⟨gb412, 4, none⟩ = some (.int .i64 0) := (blk_cell BK412.out 4).trans rfl
            have hfs129 := blk_frozen BK412.out 4
            have hns129_0 := NB353_412.out
            have hns129_1 := NB354_412.out
            have hns129_2 := NB355_412.out
            have hms129_0 := NB412_353.out
            have hms129_1 := NB412_354.out
            have hms129_2 := NB412_355.out
            refine skip_ (w1 := ?_) (by rfl) rfl ?_ ?_
            rotate_left
            · go_simp
              rfl
            refine hK.out _ _ ⟨((cell_far (p := ⟨gb412, _, none⟩) NB353_412.out _).trans (((cell_far (p := ⟨gb412, _, none⟩) NB353_412.out _).trans (((cell_far (p := ⟨gb412, _, none⟩) NB353_412.out _).trans (((cell_far (p := ⟨gb412, _, none⟩) NB353_412.out _).trans (((cell_far (p := ⟨gb412, _, none⟩) NB353_412.out _).trans (hHeld.1)))))))))), ((cell_far (p := ⟨gb412, _, none⟩) NB353_412.out _).trans (((cell_far (p := ⟨gb412, _, none⟩) NB353_412.out _).trans (((cell_far (p := ⟨gb412, _, none⟩) NB353_412.out _).trans (((cell_far (p := ⟨gb412, _, none⟩) NB353_412.out _).trans (((cell_far (p := ⟨gb412, _, none⟩) NB353_412.out _).trans (hHeld.2.1)))))))))), ((cell_far (p := ⟨gb412, _, none⟩) NB353_412.out _).trans (((cell_far (p := ⟨gb412, _, none⟩) NB353_412.out _).trans (((cell_far (p := ⟨gb412, _, none⟩) NB353_412.out _).trans (((cell_far (p := ⟨gb412, _, none⟩) NB353_412.out _).trans (((cell_far (p := ⟨gb412, _, none⟩) NB353_412.out _).trans (hHeld.2.2.1)))))))))), ((cell_far (p := ⟨gb412, _, none⟩) NB353_412.out _).trans (((cell_far (p := ⟨gb412, _, none⟩) NB353_412.out _).trans (((cell_far (p := ⟨gb412, _, none⟩) NB353_412.out _).trans (((cell_far (p := ⟨gb412, _, none⟩) NB353_412.out _).trans (((cell_far (p := ⟨gb412, _, none⟩) NB353_412.out _).trans (hHeld.2.2.2.1)))))))))), ((cell_far (p := ⟨gb412, _, none⟩) NB353_412.out _).trans (((cell_far (p := ⟨gb412, _, none⟩) NB353_412.out _).trans (((cell_far (p := ⟨gb412, _, none⟩) NB353_412.out _).trans (((cell_far (p := ⟨gb412, _, none⟩) NB353_412.out _).trans (((cell_far (p := ⟨gb412, _, none⟩) NB353_412.out _).trans (hHeld.2.2.2.2.1)))))))))), ((cell_far (p := ⟨gb412, _, none⟩) NB354_412.out _).trans (((cell_far (p := ⟨gb412, _, none⟩) NB354_412.out _).trans (((cell_far (p := ⟨gb412, _, none⟩) NB354_412.out _).trans (((cell_far (p := ⟨gb412, _, none⟩) NB354_412.out _).trans (((cell_far (p := ⟨gb412, _, none⟩) NB354_412.out _).trans (hHeld.2.2.2.2.2.1)))))))))), ((cell_far (p := ⟨gb412, _, none⟩) NB354_412.out _).trans (((cell_far (p := ⟨gb412, _, none⟩) NB354_412.out _).trans (((cell_far (p := ⟨gb412, _, none⟩) NB354_412.out _).trans (((cell_far (p := ⟨gb412, _, none⟩) NB354_412.out _).trans (((cell_far (p := ⟨gb412, _, none⟩) NB354_412.out _).trans (hHeld.2.2.2.2.2.2.1)))))))))), ((cell_far (p := ⟨gb412, _, none⟩) NB354_412.out _).trans (((cell_far (p := ⟨gb412, _, none⟩) NB354_412.out _).trans (((cell_far (p := ⟨gb412, _, none⟩) NB354_412.out _).trans (((cell_far (p := ⟨gb412, _, none⟩) NB354_412.out _).trans (((cell_far (p := ⟨gb412, _, none⟩) NB354_412.out _).trans (hHeld.2.2.2.2.2.2.2.1)))))))))), ((cell_far (p := ⟨gb412, _, none⟩) NB354_412.out _).trans (((cell_far (p := ⟨gb412, _, none⟩) NB354_412.out _).trans (((cell_far (p := ⟨gb412, _, none⟩) NB354_412.out _).trans (((cell_far (p := ⟨gb412, _, none⟩) NB354_412.out _).trans (((cell_far (p := ⟨gb412, _, none⟩) NB354_412.out _).trans (hHeld.2.2.2.2.2.2.2.2))))))))))⟩ (fun hHeld => ?_)
            clear hK K
            refine pure_ (i := 10) (N := some 15) (v := ?_) (a' := ?_) #[true, true, true, true, true, true, true, true, true, true, true] rfl rfl (any_of HT_.out (by kernel_rfl)) (fun _ _ _ h => h) (Or.inl ⟨by rfl, ?_⟩) ?_ ?_
            rotate_left
            · intro w'
              go_simp
              with_reducible rfl
            rotate_left
            · simp only [Act.put, List.setIfInBounds_toArray, List.set_cons_zero, List.set_cons_succ, i64_w, i32_w]
              rfl
            refine done_ (done_of HT_.out (by kernel_rfl)) ?_
            try go_wp2
            have n0_ : Aside0 ((((((w124.setCell ⟨gb412, 0, none⟩ (.string t406)).setCell ⟨gb412, 1, none⟩ (.int .i64 t407)).setCell ⟨gb412, 2, none⟩ (.int .i64 t408)).setCell ⟨gb412, 3, none⟩ (.int .i64 t409)).setCell ⟨gb412, 4, none⟩ (.int .i64 t410)).heap[gb353]? = some (.cells #[.string a1_0, .int .i64 a1_1, .int .i64 a1_2, .int .i64 a1_3, .int .i64 a1_4] 54 (0, 0))) := ⟨by (with_reducible repeat (first | refine blk_drewN ?_ _ | refine blk_drew ?_ | refine blk_alloc ?_ _)); refine blk_far ?_ NB353_412.out _; (with_reducible repeat (first | refine blk_drewN ?_ _ | refine blk_drew ?_ | refine blk_alloc ?_ _)); refine blk_far ?_ NB353_412.out _; (with_reducible repeat (first | refine blk_drewN ?_ _ | refine blk_drew ?_ | refine blk_alloc ?_ _)); refine blk_far ?_ NB353_412.out _; (with_reducible repeat (first | refine blk_drewN ?_ _ | refine blk_drew ?_ | refine blk_alloc ?_ _)); refine blk_far ?_ NB353_412.out _; (with_reducible repeat (first | refine blk_drewN ?_ _ | refine blk_drew ?_ | refine blk_alloc ?_ _)); refine blk_far ?_ NB353_412.out _; (with_reducible repeat (first | refine blk_drewN ?_ _ | refine blk_drew ?_ | refine blk_alloc ?_ _)); exact BK353.out⟩
            have n1_ : Aside0 ((((((w124.setCell ⟨gb412, 0, none⟩ (.string t406)).setCell ⟨gb412, 1, none⟩ (.int .i64 t407)).setCell ⟨gb412, 2, none⟩ (.int .i64 t408)).setCell ⟨gb412, 3, none⟩ (.int .i64 t409)).setCell ⟨gb412, 4, none⟩ (.int .i64 t410)).heap[gb354]? = some (.cells #[.int .i64 a2_0, .int .i64 a2_1, .int .i64 a2_2, .string a2_3] 56 (0, 0))) := ⟨by (with_reducible repeat (first | refine blk_drewN ?_ _ | refine blk_drew ?_ | refine blk_alloc ?_ _)); refine blk_far ?_ NB354_412.out _; (with_reducible repeat (first | refine blk_drewN ?_ _ | refine blk_drew ?_ | refine blk_alloc ?_ _)); refine blk_far ?_ NB354_412.out _; (with_reducible repeat (first | refine blk_drewN ?_ _ | refine blk_drew ?_ | refine blk_alloc ?_ _)); refine blk_far ?_ NB354_412.out _; (with_reducible repeat (first | refine blk_drewN ?_ _ | refine blk_drew ?_ | refine blk_alloc ?_ _)); refine blk_far ?_ NB354_412.out _; (with_reducible repeat (first | refine blk_drewN ?_ _ | refine blk_drew ?_ | refine blk_alloc ?_ _)); refine blk_far ?_ NB354_412.out _; (with_reducible repeat (first | refine blk_drewN ?_ _ | refine blk_drew ?_ | refine blk_alloc ?_ _)); exact BK354.out⟩
            have n2_ : Aside0 ((((((w124.setCell ⟨gb412, 0, none⟩ (.string t406)).setCell ⟨gb412, 1, none⟩ (.int .i64 t407)).setCell ⟨gb412, 2, none⟩ (.int .i64 t408)).setCell ⟨gb412, 3, none⟩ (.int .i64 t409)).setCell ⟨gb412, 4, none⟩ (.int .i64 t410)).heap[gb355]? = some (.cells #[.string (⟨#[]⟩ : ByteArray), .int .i64 0, .int .i64 0, .int .i64 0, .int .i64 0] 54 (0, 0))) := ⟨by (with_reducible repeat (first | refine blk_drewN ?_ _ | refine blk_drew ?_ | refine blk_alloc ?_ _)); refine blk_far ?_ NB355_412.out _; (with_reducible repeat (first | refine blk_drewN ?_ _ | refine blk_drew ?_ | refine blk_alloc ?_ _)); refine blk_far ?_ NB355_412.out _; (with_reducible repeat (first | refine blk_drewN ?_ _ | refine blk_drew ?_ | refine blk_alloc ?_ _)); refine blk_far ?_ NB355_412.out _; (with_reducible repeat (first | refine blk_drewN ?_ _ | refine blk_drew ?_ | refine blk_alloc ?_ _)); refine blk_far ?_ NB355_412.out _; (with_reducible repeat (first | refine blk_drewN ?_ _ | refine blk_drew ?_ | refine blk_alloc ?_ _)); refine blk_far ?_ NB355_412.out _; (with_reducible repeat (first | refine blk_drewN ?_ _ | refine blk_drew ?_ | refine blk_alloc ?_ _)); exact BK355.out⟩
            have n3_ : Aside0 ((((((w124.setCell ⟨gb412, 0, none⟩ (.string t406)).setCell ⟨gb412, 1, none⟩ (.int .i64 t407)).setCell ⟨gb412, 2, none⟩ (.int .i64 t408)).setCell ⟨gb412, 3, none⟩ (.int .i64 t409)).setCell ⟨gb412, 4, none⟩ (.int .i64 t410)).heap[gb412]? = some (.cells #[.string t406, .int .i64 t407, .int .i64 t408, .int .i64 t409, .int .i64 t410] 54 (0, 0))) := ⟨by (with_reducible repeat (first | refine blk_drewN ?_ _ | refine blk_drew ?_ | refine blk_alloc ?_ _)); refine blk_put (cs := #[.string t406, .int .i64 t407, .int .i64 t408, .int .i64 t409, .int .i64 0]) ?_ 4 _ rfl; (with_reducible repeat (first | refine blk_drewN ?_ _ | refine blk_drew ?_ | refine blk_alloc ?_ _)); refine blk_put (cs := #[.string t406, .int .i64 t407, .int .i64 t408, .int .i64 0, .int .i64 0]) ?_ 3 _ rfl; (with_reducible repeat (first | refine blk_drewN ?_ _ | refine blk_drew ?_ | refine blk_alloc ?_ _)); refine blk_put (cs := #[.string t406, .int .i64 t407, .int .i64 0, .int .i64 0, .int .i64 0]) ?_ 2 _ rfl; (with_reducible repeat (first | refine blk_drewN ?_ _ | refine blk_drew ?_ | refine blk_alloc ?_ _)); refine blk_put (cs := #[.string t406, .int .i64 0, .int .i64 0, .int .i64 0, .int .i64 0]) ?_ 1 _ rfl; (with_reducible repeat (first | refine blk_drewN ?_ _ | refine blk_drew ?_ | refine blk_alloc ?_ _)); refine blk_put (cs := #[.string (⟨#[]⟩ : ByteArray), .int .i64 0, .int .i64 0, .int .i64 0, .int .i64 0]) ?_ 0 _ rfl; (with_reducible repeat (first | refine blk_drewN ?_ _ | refine blk_drew ?_ | refine blk_alloc ?_ _)); exact BK412.out⟩
            have n4_ : Aside0 (IsS68 w0 (((((w124.setCell ⟨gb412, 0, none⟩ (.string t406)).setCell ⟨gb412, 1, none⟩ (.int .i64 t407)).setCell ⟨gb412, 2, none⟩ (.int .i64 t408)).setCell ⟨gb412, 3, none⟩ (.int .i64 t409)).setCell ⟨gb412, 4, none⟩ (.int .i64 t410)) g s0_0 s0_1 s0_2 s0_3 s0_4) := ⟨q_75⟩
            have n5_ : Aside0 (KeepBut w (((((w124.setCell ⟨gb412, 0, none⟩ (.string t406)).setCell ⟨gb412, 1, none⟩ (.int .i64 t407)).setCell ⟨gb412, 2, none⟩ (.int .i64 t408)).setCell ⟨gb412, 3, none⟩ (.int .i64 t409)).setCell ⟨gb412, 4, none⟩ (.int .i64 t410)) g none) := ⟨q_76⟩
            have n6_ : Aside0 (Below w0.heap.size w0 (((((w124.setCell ⟨gb412, 0, none⟩ (.string t406)).setCell ⟨gb412, 1, none⟩ (.int .i64 t407)).setCell ⟨gb412, 2, none⟩ (.int .i64 t408)).setCell ⟨gb412, 3, none⟩ (.int .i64 t409)).setCell ⟨gb412, 4, none⟩ (.int .i64 t410))) := ⟨q_77⟩
            (try clear BK353)
            (try clear BK354)
            (try clear BK355)
            (try clear BK412)
            (try clear HI0)
            (try clear HK)
            (try clear HB)
            generalize (((((w124.setCell ⟨gb412, 0, none⟩ (.string t406)).setCell ⟨gb412, 1, none⟩ (.int .i64 t407)).setCell ⟨gb412, 2, none⟩ (.int .i64 t408)).setCell ⟨gb412, 3, none⟩ (.int .i64 t409)).setCell ⟨gb412, 4, none⟩ (.int .i64 t410)) = w130 at n0_ n1_ n2_ n3_ n4_ n5_ n6_ ⊢
            have BK353 := n0_
            have BK354 := n1_
            have BK355 := n2_
            have BK412 := n3_
            have HI0 := n4_
            have HK := n5_
            have HB := n6_
            clear n0_ n1_ n2_ n3_ n4_ n5_ n6_
            have n0_ := Aside0.mk (blk_drew BK353.out)
            have n1_ := Aside0.mk (blk_drew BK354.out)
            have n2_ := Aside0.mk (blk_drew BK355.out)
            have n3_ := Aside0.mk (blk_drew BK412.out)
            have n4_ := Aside0.mk (IsS68.drew HI0.out)
            have n5_ := Aside0.mk (keep_drew HK.out)
            have n6_ := Aside0.mk (below_drew1 HB.out)
            clear BK353
            clear BK354
            clear BK355
            clear BK412
            clear HI0
            clear HK
            clear HB
            have BK353 := n0_
            have BK354 := n1_
            have BK355 := n2_
            have BK412 := n3_
            have HI0 := n4_
            have HK := n5_
            have HB := n6_
            clear n0_ n1_ n2_ n3_ n4_ n5_ n6_
            refine start_ (n := 11) (S := fun w' => w'.cell? ⟨gb412, 0, none⟩ = some (.string t406) ∧ w'.cell? ⟨gb412, 1, none⟩ = some (.int .i64 t407) ∧ w'.cell? ⟨gb412, 2, none⟩ = some (.int .i64 t408) ∧ w'.cell? ⟨gb412, 3, none⟩ = some (.int .i64 t409) ∧ w'.cell? ⟨gb412, 4, none⟩ = some (.int .i64 t410) ∧ w'.cell? ⟨gb354, 0, none⟩ = some (.int .i64 a2_0) ∧ w'.cell? ⟨gb354, 1, none⟩ = some (.int .i64 a2_1) ∧ w'.cell? ⟨gb354, 2, none⟩ = some (.int .i64 a2_2) ∧ w'.cell? ⟨gb354, 3, none⟩ = some (.string a2_3)) (ds := []) #[false, false, false, false, false, false, false, false, false, false, false] (by kernel_rfl) rfl rfl ⟨(blk_cell BK412.out 0).trans rfl, (blk_cell BK412.out 1).trans rfl, (blk_cell BK412.out 2).trans rfl, (blk_cell BK412.out 3).trans rfl, (blk_cell BK412.out 4).trans rfl, (blk_cell BK354.out 0).trans rfl, (blk_cell BK354.out 1).trans rfl, (blk_cell BK354.out 2).trans rfl, (blk_cell BK354.out 3).trans rfl⟩ (fun hHeld => ?_); refine with_tabW diacriticlaw01_do.tab15 diacriticlaw01_do.bits15 (fun HT_ HW_ => ?_)
            generalize w130.drew = w131 at BK353 BK354 BK355 BK412 HI0 HK HB hHeld ⊢
            refine pure_ (i := 1) (N := some 95) (v := ?_) (a' := ?_) #[false, true, false, false, false, false, false, false, false, false, false] rfl rfl (any_of HT_.out (by kernel_rfl)) (fun _ _ _ h => h) (Or.inl ⟨by rfl, ?_⟩) ?_ ?_
            rotate_left
            · intro w'
              go_simp
              with_reducible rfl
            rotate_left
            · simp only [Act.put, List.setIfInBounds_toArray, List.set_cons_zero, List.set_cons_succ, i64_w, i32_w]
              rfl
            refine pure_ (i := 2) (N := some 96) (v := ?_) (a' := ?_) #[false, true, true, false, false, false, false, false, false, false, false] rfl rfl (any_of HT_.out (by kernel_rfl)) (fun _ _ _ h => h) (Or.inl ⟨by rfl, ?_⟩) ?_ ?_
            rotate_left
            · intro w'
              go_simp
              with_reducible rfl
            rotate_left
            · simp only [Act.put, List.setIfInBounds_toArray, List.set_cons_zero, List.set_cons_succ, i64_w, i32_w]
              rfl
            refine pure_ (i := 5) (N := some 99) (v := ?_) (a' := ?_) #[false, true, true, false, false, true, false, false, false, false, false] rfl rfl (any_of HT_.out (by kernel_rfl)) (fun _ _ _ h => h) (Or.inl ⟨by rfl, ?_⟩) ?_ ?_
            rotate_left
            · intro w'
              go_simp
              with_reducible rfl
            rotate_left
            · simp only [Act.put, List.setIfInBounds_toArray, List.set_cons_zero, List.set_cons_succ, i64_w, i32_w]
              rfl
            refine take_ (i := 0) (N := some 94) (v := ?_) (a' := ?_) #[true, true, true, false, false, true, false, false, false, false, false] rfl rfl (take_ofW HT_.out HW_.out (by kernel_rfl)) (fun _ _ _ h => h) (Or.inl ⟨by rfl, ?_⟩) hHeld ?_ ?_
            rotate_left
            · rintro w' ⟨s0, s1, s2, s3, s4, s5, s6, s7, s8⟩
              go_simp
              with_reducible rfl
            rotate_left
            · simp only [Act.put, List.setIfInBounds_toArray, List.set_cons_zero, List.set_cons_succ, i64_w, i32_w]
              rfl
            refine take_ (i := 3) (N := some 97) (v := ?_) (a' := ?_) #[true, true, true, true, false, true, false, false, false, false, false] rfl rfl (take_ofW HT_.out HW_.out (by kernel_rfl)) (fun _ _ _ h => h) (Or.inl ⟨by rfl, ?_⟩) hHeld ?_ ?_
            rotate_left
            · rintro w' ⟨s0, s1, s2, s3, s4, s5, s6, s7, s8⟩
              go_simp
              with_reducible rfl
            rotate_left
            · simp only [Act.put, List.setIfInBounds_toArray, List.set_cons_zero, List.set_cons_succ, i64_w, i32_w]
              rfl
            refine one_ (i := 4) (N := some 98) #[true, true, true, true, true, true, false, false, false, false, false] rfl rfl (one_of HT_.out (by kernel_rfl)) (by decide) (fun K hK => ?_)
            refine goes_ Try.func29 (by kernel_rfl) rfl #[.pointer (some ⟨g, 0, none⟩), .int .i64 a2_1] (by rfl) rfl rfl q_10 ?_
            with_reducible refine (octet_In_Small.calls g s0_0 s0_1 s0_2 s0_3 s0_4 a2_1 t413 t414 t415 t416 t417 t418 w0 _ ?side1 ?side2 A111.out).mono ?_
            (case side1 => repeat (first | (with_reducible first | exact HI0.out | apply IsS68.alloc | apply IsS68.drewN | apply IsS68.drew | apply IsS68.set_0 | apply IsS68.set_1 | apply IsS68.set_2 | apply IsS68.set_3 | apply IsS68.set_4 | refine IsS68.far ?_ NB0_353.out _ | apply IsS68.far (hne := NB0_353.out) | refine IsS68.far ?_ NB0_354.out _ | apply IsS68.far (hne := NB0_354.out) | refine IsS68.far ?_ NB0_355.out _ | apply IsS68.far (hne := NB0_355.out) | refine IsS68.far ?_ NB0_412.out _ | apply IsS68.far (hne := NB0_412.out)) | exact HI0.out))
            (case side2 => repeat (first | (with_reducible first | exact HB.out | apply below_alloc | apply pw_below_drewN | apply below_drew1 | refine below_set ?_ (IsS68.ge HI0.out) | refine below_set ?_ GE353.out | refine below_set ?_ GE354.out | refine below_set ?_ GE355.out | refine below_set ?_ GE412.out) | exact HB.out))
            rintro e w132 ⟨rfl, hi, hb, hk⟩
            refine ⟨_, rfl, ?_⟩
            have n0_ := Aside0.mk (KeepBut.blk hk (g' := gb353) (o := .cells #[.string a1_0, .int .i64 a1_1, .int .i64 a1_2, .int .i64 a1_3, .int .i64 a1_4] 54 (0, 0)) q_45 NB353_0.out (by simp))
            have n1_ := Aside0.mk (KeepBut.blk hk (g' := gb354) (o := .cells #[.int .i64 a2_0, .int .i64 a2_1, .int .i64 a2_2, .string a2_3] 56 (0, 0)) q_51 NB354_0.out (by simp))
            have n2_ := Aside0.mk (KeepBut.blk hk (g' := gb355) (o := .cells #[.string (⟨#[]⟩ : ByteArray), .int .i64 0, .int .i64 0, .int .i64 0, .int .i64 0] 54 (0, 0)) q_57 NB355_0.out (by simp))
            have n3_ := Aside0.mk (KeepBut.blk hk (g' := gb412) (o := .cells #[.string t406, .int .i64 t407, .int .i64 t408, .int .i64 t409, .int .i64 t410] 54 (0, 0)) q_74 NB412_0.out (by simp))
            have n4_ := Aside0.mk (KeepBut.trans q_76 hk (.inl rfl))
            have n5_ := Aside0.mk (hb)
            have n6_ := Aside0.mk (hi)
            clear BK353
            clear BK354
            clear BK355
            clear BK412
            clear HK
            clear HB
            clear HI0
            have BK353 := n0_
            have BK354 := n1_
            have BK355 := n2_
            have BK412 := n3_
            have HK := n4_
            have HB := n5_
            have HI0 := n6_
            clear n0_ n1_ n2_ n3_ n4_ n5_ n6_
            (try clear hb)
            (try clear hb2)
            (try clear hk)
            (try clear hi)
            refine hK.out _ _ ⟨(blk_cell BK412.out 0).trans rfl, (blk_cell BK412.out 1).trans rfl, (blk_cell BK412.out 2).trans rfl, (blk_cell BK412.out 3).trans rfl, (blk_cell BK412.out 4).trans rfl, (blk_cell BK354.out 0).trans rfl, (blk_cell BK354.out 1).trans rfl, (blk_cell BK354.out 2).trans rfl, (blk_cell BK354.out 3).trans rfl⟩ (fun hHeld => ?_)
            clear hK K
            refine norm_ (a' := ?_) ?_ ?_
            rotate_left
            · show Act.put _ (some 98) _ = _
              simp only [Act.put, List.setIfInBounds_toArray, List.set_cons_zero, List.set_cons_succ, i64_w, i32_w]
              rfl
            refine one_ (i := 6) (N := some 100) #[true, true, true, true, true, true, true, false, false, false, false] rfl rfl (one_of HT_.out (by kernel_rfl)) (by decide) (fun K hK => ?_)
            refine goes_ Try.func25 (by kernel_rfl) rfl #[.string t411] (by rfl) rfl rfl q_10 ?_
            with_reducible refine (diacriticref01_Back.calls k t411 t419 _ A112.out).mono ?_
            rintro e w' ⟨rfl, ⟨nd, rfl⟩⟩
            refine ⟨_, rfl, ?_⟩
            refine hK.out _ _ ⟨(blk_cell BK412.out 0).trans rfl, (blk_cell BK412.out 1).trans rfl, (blk_cell BK412.out 2).trans rfl, (blk_cell BK412.out 3).trans rfl, (blk_cell BK412.out 4).trans rfl, (blk_cell BK354.out 0).trans rfl, (blk_cell BK354.out 1).trans rfl, (blk_cell BK354.out 2).trans rfl, (blk_cell BK354.out 3).trans rfl⟩ (fun hHeld => ?_)
            clear hK K
            refine norm_ (a' := ?_) ?_ ?_
            rotate_left
            · show Act.put _ (some 100) _ = _
              simp only [Act.put, List.setIfInBounds_toArray, List.set_cons_zero, List.set_cons_succ, i64_w, i32_w]
              rfl
            refine one_ (i := 7) (N := some 101) #[true, true, true, true, true, true, true, true, false, false, false] rfl rfl (one_of HT_.out (by kernel_rfl)) (by decide) (fun K hK => ?_)
            refine goes_ Try.func50 (by kernel_rfl) rfl #[.string t419] (by rfl) rfl rfl q_10 ?_
            with_reducible refine (diacriticref01_Number.calls k t419 t420 _ A113.out).mono ?_
            rintro e w' ⟨rfl, ⟨nd, rfl⟩⟩
            refine ⟨_, rfl, ?_⟩
            refine hK.out _ _ ⟨(blk_cell BK412.out 0).trans rfl, (blk_cell BK412.out 1).trans rfl, (blk_cell BK412.out 2).trans rfl, (blk_cell BK412.out 3).trans rfl, (blk_cell BK412.out 4).trans rfl, (blk_cell BK354.out 0).trans rfl, (blk_cell BK354.out 1).trans rfl, (blk_cell BK354.out 2).trans rfl, (blk_cell BK354.out 3).trans rfl⟩ (fun hHeld => ?_)
            clear hK K
            refine norm_ (a' := ?_) ?_ ?_
            rotate_left
            · show Act.put _ (some 101) _ = _
              simp only [Act.put, List.setIfInBounds_toArray, List.set_cons_zero, List.set_cons_succ, i64_w, i32_w]
              rfl
            refine pure_ (i := 8) (N := some 102) (v := ?_) (a' := ?_) #[true, true, true, true, true, true, true, true, true, false, false] rfl rfl (any_of HT_.out (by kernel_rfl)) (fun _ _ _ h => h) (Or.inl ⟨by rfl, ?_⟩) ?_ ?_
            rotate_left
            · intro w'
              go_simp
              with_reducible rfl
            rotate_left
            · simp only [Act.put, List.setIfInBounds_toArray, List.set_cons_zero, List.set_cons_succ, i64_w, i32_w]
              rfl
            refine one_ (i := 9) (N := none) #[true, true, true, true, true, true, true, true, true, true, false] rfl rfl (one_of HT_.out (by kernel_rfl)) (by decide) (fun K hK => ?_)
            have hs133 : w132.cell? ⟨gb355, 0, none⟩ = some (.string (⟨#[]⟩ : ByteArray)) := (blk_cell BK355.out 0).trans rfl
            have hfs133 := blk_frozen BK355.out 0
            have hns133_0 := NB353_355.out
            have hns133_1 := NB354_355.out
            have hns133_3 := NB412_355.out
            have hms133_0 := NB355_353.out
            have hms133_1 := NB355_354.out
            have hms133_3 := NB355_412.out
            have hs134 : w132.cell? ⟨gb355, 1, none⟩ = some (.int .i64 0) := (blk_cell BK355.out 1).trans rfl
            have hfs134 := blk_frozen BK355.out 1
            have hns134_0 := NB353_355.out
            have hns134_1 := NB354_355.out
            have hns134_3 := NB412_355.out
            have hms134_0 := NB355_353.out
            have hms134_1 := NB355_354.out
            have hms134_3 := NB355_412.out
            have hs135 : w132.cell? ⟨gb355, 2, none⟩ = some (.int .i64 0) := (blk_cell BK355.out 2).trans rfl
            have hfs135 := blk_frozen BK355.out 2
            have hns135_0 := NB353_355.out
            have hns135_1 := NB354_355.out
            have hns135_3 := NB412_355.out
            have hms135_0 := NB355_353.out
            have hms135_1 := NB355_354.out
            have hms135_3 := NB355_412.out
            have hs136 : w132.cell? ⟨gb355, 3, none⟩ = some (.int .i64 0) := (blk_cell BK355.out 3).trans rfl
            have hfs136 := blk_frozen BK355.out 3
            have hns136_0 := NB353_355.out
            have hns136_1 := NB354_355.out
            have hns136_3 := NB412_355.out
            have hms136_0 := NB355_353.out
            have hms136_1 := NB355_354.out
            have hms136_3 := NB355_412.out
            have hs137 : w132.cell? ⟨gb355, 4, none⟩ = some (.int .i64 0) := (blk_cell BK355.out 4).trans rfl
            have hfs137 := blk_frozen BK355.out 4
            have hns137_0 := NB353_355.out
            have hns137_1 := NB354_355.out
            have hns137_3 := NB412_355.out
            have hms137_0 := NB355_353.out
            have hms137_1 := NB355_354.out
            have hms137_3 := NB355_412.out
            refine skip_ (w1 := ?_) (by rfl) rfl ?_ ?_
            rotate_left
            · go_simp
              rfl
            refine hK.out _ _ ⟨((cell_far (p := ⟨gb355, _, none⟩) NB412_355.out _).trans (((cell_far (p := ⟨gb355, _, none⟩) NB412_355.out _).trans (((cell_far (p := ⟨gb355, _, none⟩) NB412_355.out _).trans (((cell_far (p := ⟨gb355, _, none⟩) NB412_355.out _).trans (((cell_far (p := ⟨gb355, _, none⟩) NB412_355.out _).trans (hHeld.1)))))))))), ((cell_far (p := ⟨gb355, _, none⟩) NB412_355.out _).trans (((cell_far (p := ⟨gb355, _, none⟩) NB412_355.out _).trans (((cell_far (p := ⟨gb355, _, none⟩) NB412_355.out _).trans (((cell_far (p := ⟨gb355, _, none⟩) NB412_355.out _).trans (((cell_far (p := ⟨gb355, _, none⟩) NB412_355.out _).trans (hHeld.2.1)))))))))), ((cell_far (p := ⟨gb355, _, none⟩) NB412_355.out _).trans (((cell_far (p := ⟨gb355, _, none⟩) NB412_355.out _).trans (((cell_far (p := ⟨gb355, _, none⟩) NB412_355.out _).trans (((cell_far (p := ⟨gb355, _, none⟩) NB412_355.out _).trans (((cell_far (p := ⟨gb355, _, none⟩) NB412_355.out _).trans (hHeld.2.2.1)))))))))), ((cell_far (p := ⟨gb355, _, none⟩) NB412_355.out _).trans (((cell_far (p := ⟨gb355, _, none⟩) NB412_355.out _).trans (((cell_far (p := ⟨gb355, _, none⟩) NB412_355.out _).trans (((cell_far (p := ⟨gb355, _, none⟩) NB412_355.out _).trans (((cell_far (p := ⟨gb355, _, none⟩) NB412_355.out _).trans (hHeld.2.2.2.1)))))))))), ((cell_far (p := ⟨gb355, _, none⟩) NB412_355.out _).trans (((cell_far (p := ⟨gb355, _, none⟩) NB412_355.out _).trans (((cell_far (p := ⟨gb355, _, none⟩) NB412_355.out _).trans (((cell_far (p := ⟨gb355, _, none⟩) NB412_355.out _).trans (((cell_far (p := ⟨gb355, _, none⟩) NB412_355.out _).trans (hHeld.2.2.2.2.1)))))))))), ((cell_far (p := ⟨gb355, _, none⟩) NB354_355.out _).trans (((cell_far (p := ⟨gb355, _, none⟩) NB354_355.out _).trans (((cell_far (p := ⟨gb355, _, none⟩) NB354_355.out _).trans (((cell_far (p := ⟨gb355, _, none⟩) NB354_355.out _).trans (((cell_far (p := ⟨gb355, _, none⟩) NB354_355.out _).trans (hHeld.2.2.2.2.2.1)))))))))), ((cell_far (p := ⟨gb355, _, none⟩) NB354_355.out _).trans (((cell_far (p := ⟨gb355, _, none⟩) NB354_355.out _).trans (((cell_far (p := ⟨gb355, _, none⟩) NB354_355.out _).trans (((cell_far (p := ⟨gb355, _, none⟩) NB354_355.out _).trans (((cell_far (p := ⟨gb355, _, none⟩) NB354_355.out _).trans (hHeld.2.2.2.2.2.2.1)))))))))), ((cell_far (p := ⟨gb355, _, none⟩) NB354_355.out _).trans (((cell_far (p := ⟨gb355, _, none⟩) NB354_355.out _).trans (((cell_far (p := ⟨gb355, _, none⟩) NB354_355.out _).trans (((cell_far (p := ⟨gb355, _, none⟩) NB354_355.out _).trans (((cell_far (p := ⟨gb355, _, none⟩) NB354_355.out _).trans (hHeld.2.2.2.2.2.2.2.1)))))))))), ((cell_far (p := ⟨gb355, _, none⟩) NB354_355.out _).trans (((cell_far (p := ⟨gb355, _, none⟩) NB354_355.out _).trans (((cell_far (p := ⟨gb355, _, none⟩) NB354_355.out _).trans (((cell_far (p := ⟨gb355, _, none⟩) NB354_355.out _).trans (((cell_far (p := ⟨gb355, _, none⟩) NB354_355.out _).trans (hHeld.2.2.2.2.2.2.2.2))))))))))⟩ (fun hHeld => ?_)
            clear hK K
            refine pure_ (i := 10) (N := some 7) (v := ?_) (a' := ?_) #[true, true, true, true, true, true, true, true, true, true, true] rfl rfl (any_of HT_.out (by kernel_rfl)) (fun _ _ _ h => h) (Or.inl ⟨by rfl, ?_⟩) ?_ ?_
            rotate_left
            · intro w'
              go_simp
              with_reducible rfl
            rotate_left
            · simp only [Act.put, List.setIfInBounds_toArray, List.set_cons_zero, List.set_cons_succ, i64_w, i32_w]
              rfl
            refine done_ (done_of HT_.out (by kernel_rfl)) ?_
            try go_wp2
            refine bodyPost_ret (results_ct rfl _ _ gb355 54 #[.string t406, .int .i64 t407, .int .i64 t408, .int .i64 t409, .int .i64 t410] (0, 0) _ rfl (by (with_reducible repeat (first | refine blk_drewN ?_ _ | refine blk_drew ?_ | refine blk_alloc ?_ _)); refine blk_put (cs := #[.string t406, .int .i64 t407, .int .i64 t408, .int .i64 t409, .int .i64 0]) ?_ 4 _ rfl; (with_reducible repeat (first | refine blk_drewN ?_ _ | refine blk_drew ?_ | refine blk_alloc ?_ _)); refine blk_put (cs := #[.string t406, .int .i64 t407, .int .i64 t408, .int .i64 0, .int .i64 0]) ?_ 3 _ rfl; (with_reducible repeat (first | refine blk_drewN ?_ _ | refine blk_drew ?_ | refine blk_alloc ?_ _)); refine blk_put (cs := #[.string t406, .int .i64 t407, .int .i64 0, .int .i64 0, .int .i64 0]) ?_ 2 _ rfl; (with_reducible repeat (first | refine blk_drewN ?_ _ | refine blk_drew ?_ | refine blk_alloc ?_ _)); refine blk_put (cs := #[.string t406, .int .i64 0, .int .i64 0, .int .i64 0, .int .i64 0]) ?_ 1 _ rfl; (with_reducible repeat (first | refine blk_drewN ?_ _ | refine blk_drew ?_ | refine blk_alloc ?_ _)); refine blk_put (cs := #[.string (⟨#[]⟩ : ByteArray), .int .i64 0, .int .i64 0, .int .i64 0, .int .i64 0]) ?_ 0 _ rfl; (with_reducible repeat (first | refine blk_drewN ?_ _ | refine blk_drew ?_ | refine blk_alloc ?_ _)); exact BK355.out) Try.underlying54 rfl (by kernel_rfl)) rfl ?_
            exact ⟨q_9, q_75, q_77, q_76⟩
          · exact absurd (show a2_0 = 4 by have h_ := hcs_.out; omega) c108
end Go.Proofs.Ytkcckhlkaknggaa.PAll
