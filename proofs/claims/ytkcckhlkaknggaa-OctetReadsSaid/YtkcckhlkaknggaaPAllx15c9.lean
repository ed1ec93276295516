/- Written by a program of this session: functions of the Go program as Lean functions, and the walks that tie them to it. -/
import Derived.Test.YtkcckhlkaknggaaPAllx15b
namespace Go.Proofs.Ytkcckhlkaknggaa.PAll
open Go.RowKit Go.Proofs.YtkcckhlkaknggaaW.PrintWords Go.Proofs.YtkcckhlkaknggaaW.PrintLast Go.Proofs.YtkcckhlkaknggaaW.PrintMore
attribute [local go_sem] max2_int min2_int max_two min_two max_three min_three max_four min_four   -- for this text's walks alone
set_option linter.unusedVariables false
set_option linter.unusedSimpArgs false
set_option maxHeartbeats 8000000 in
set_option maxRecDepth 100000 in
theorem diacriticlaw01_do.case9 (k : Nat) (g : Nat) (s0_0 : ByteArray) (s0_1 : Int) (s0_2 : Int) (s0_3 : Int) (s0_4 : Int) (a1_0 : ByteArray) (a1_1 : Int) (a1_2 : Int) (a1_3 : Int) (a1_4 : Int) (a2_0 : Int) (a2_1 : Int) (a2_2 : Int) (a2_3 : ByteArray) (r1 : ByteArray) (r2 : Int) (r3 : Int) (r4 : Int) (r5 : Int) (r6 : Bool) (r7 : ByteArray) (r8 : Int) (r9 : Int) (r10 : Int) (r11 : Int) (w0 w : World) (hI : IsS68 w0 w g s0_0 s0_1 s0_2 s0_3 s0_4) (hB : Below w0.heap.size w0 w) (hcs_ : Aside0 (a2_0 ≠ 0 ∧ a2_0 ≠ 1 ∧ a2_0 ≠ 2 ∧ a2_0 ≠ 3 ∧ a2_0 ≠ 4 ∧ a2_0 ≠ 5 ∧ a2_0 ≠ 6 ∧ a2_0 ≠ 7 ∧ a2_0 ≠ 8)) (h : diacriticlaw01_do.f k s0_0 s0_1 s0_2 s0_3 s0_4 a1_0 a1_1 a1_2 a1_3 a1_4 a2_0 a2_1 a2_2 a2_3 = some (r1, r2, r3, r4, r5, r6, r7, r8, r9, r10, r11)) :
    Calls Try.prog 34 #[.pointer (some ⟨g, 0, none⟩), .agg #[.string a1_0, .int .i64 a1_1, .int .i64 a1_2, .int .i64 a1_3, .int .i64 a1_4], .agg #[.int .i64 a2_0, .int .i64 a2_1, .int .i64 a2_2, .string a2_3]] w fun e w' => e = .returned (.tuple #[.agg #[.string r1, .int .i64 r2, .int .i64 r3, .int .i64 r4, .int .i64 r5], .bool r6]) ∧ IsS68 w0 w' g r7 r8 r9 r10 r11 ∧ Below w0.heap.size w0 w' ∧ KeepBut w w' g none := by
  have hu54 := Try.underlying54
  have hu56 := Try.underlying56
  have HI0 := Aside0.mk hI
  have HK := Aside0.mk (KeepBut.refl w g none)
  have HL := Aside0.mk hB.size
  clear hI
  have HW0 := Aside0.mk hB.size
  have HB := Aside0.mk hB
  clear hB
  have H : (if a2_0 = 0 then ((diacriticref01_Take.f a1_0 a1_1 a1_2 a1_3 a1_4 a2_1).bind fun bt356 => ((octet_In_Take.f s0_0 s0_1 s0_2 s0_3 s0_4 a2_1).bind fun bt363 => (some (bt356.1, bt356.2.1, bt356.2.2.1, bt356.2.2.2.1, bt356.2.2.2.2.1, (bt363.1.toList == bt356.2.2.2.2.2.toList), bt363.2.1, bt363.2.2.1, bt363.2.2.2.1, bt363.2.2.2.2.1, bt363.2.2.2.2.2)))) else (if a2_0 = 1 then ((diacriticref01_Left.f a1_0 a1_1 a1_2 a1_3 a1_4).bind fun t369 => ((diacriticref01_Take.f a1_0 a1_1 a1_2 a1_3 a1_4 t369).bind fun bt370 => ((octet_In_Rest.f s0_0 s0_1 s0_2 s0_3 s0_4).bind fun bt377 => (some (bt370.1, bt370.2.1, bt370.2.2.1, bt370.2.2.2.1, bt370.2.2.2.2.1, (bt377.1.toList == bt370.2.2.2.2.2.toList), bt377.2.1, bt377.2.2.1, bt377.2.2.2.1, bt377.2.2.2.2.1, bt377.2.2.2.2.2))))) else (if a2_0 = 2 then ((octet_In_Peek.f s0_0 s0_1 s0_2 s0_3 s0_4 a2_1).bind fun bt383 => ((diacriticref01_Peek.f k a1_0 a1_1 a1_2 a1_3 a1_4 a2_1).bind fun t389 => (some (a1_0, a1_1, a1_2, a1_3, a1_4, (bt383.1.toList == t389.toList), bt383.2.1, bt383.2.2.1, bt383.2.2.2.1, bt383.2.2.2.2.1, bt383.2.2.2.2.2)))) else (if a2_0 = 3 then ((diacriticref01_Size.f a2_1).bind fun t390 => ((diacriticref01_Take.f a1_0 a1_1 a1_2 a1_3 a1_4 t390).bind fun bt391 => ((octet_In_Big.f s0_0 s0_1 s0_2 s0_3 s0_4 a2_1).bind fun bt398 => ((diacriticref01_Number.f k bt391.2.2.2.2.2).bind fun t404 => (some (bt391.1, bt391.2.1, bt391.2.2.1, bt391.2.2.2.1, bt391.2.2.2.2.1, (bt398.1 == t404), bt398.2.1, bt398.2.2.1, bt398.2.2.2.1, bt398.2.2.2.2.1, bt398.2.2.2.2.2)))))) else (if a2_0 = 4 then ((diacriticref01_Size.f a2_1).bind fun t405 => ((diacriticref01_Take.f a1_0 a1_1 a1_2 a1_3 a1_4 t405).bind fun bt406 => ((octet_In_Small.f s0_0 s0_1 s0_2 s0_3 s0_4 a2_1).bind fun bt413 => ((diacriticref01_Back.f k bt406.2.2.2.2.2).bind fun t419 => ((diacriticref01_Number.f k t419).bind fun t420 => (some (bt406.1, bt406.2.1, bt406.2.2.1, bt406.2.2.2.1, bt406.2.2.2.2.1, (bt413.1 == t420), bt413.2.1, bt413.2.2.1, bt413.2.2.2.1, bt413.2.2.2.2.1, bt413.2.2.2.2.2))))))) else (if a2_0 = 5 then ((diacriticref01_ReadSafe.f k a1_0 a1_1 a1_2 a1_3 a1_4).bind fun bt421 => ((octet_In_Safe.f s0_0 s0_1 s0_2 s0_3 s0_4).bind fun bt428 => (some (bt421.1, bt421.2.1, bt421.2.2.1, bt421.2.2.2.1, bt421.2.2.2.2.1, (bt428.1 == bt421.2.2.2.2.2), bt428.2.1, bt428.2.2.1, bt428.2.2.2.1, bt428.2.2.2.2.1, bt428.2.2.2.2.2)))) else (if a2_0 = 6 then ((diacriticref01_Want.f k a1_0 a1_1 a1_2 a1_3 a1_4 a2_3).bind fun bt434 => ((octet_In_Want.f k s0_0 s0_1 s0_2 s0_3 s0_4 a2_3).bind fun bt441 => (some (bt434.1, bt434.2.1, bt434.2.2.1, bt434.2.2.2.1, bt434.2.2.2.2.1, (bt441.1 == bt434.2.2.2.2.2), bt441.2.1, bt441.2.2.1, bt441.2.2.2.1, bt441.2.2.2.2.1, bt441.2.2.2.2.2)))) else (if a2_0 = 7 then ((diacriticref01_Until.f k a1_0 a1_1 a1_2 a1_3 a1_4 a2_3).bind fun bt447 => ((octet_In_Until.f s0_0 s0_1 s0_2 s0_3 s0_4 a2_3).bind fun bt454 => (some (bt447.1, bt447.2.1, bt447.2.2.1, bt447.2.2.2.1, bt447.2.2.2.2.1, (bt454.1.toList == bt447.2.2.2.2.2.toList), bt454.2.1, bt454.2.2.1, bt454.2.2.2.1, bt454.2.2.2.2.1, bt454.2.2.2.2.2)))) else (if a2_0 = 8 then ((octet_In_Fail.f s0_0 s0_1 s0_2 s0_3 s0_4 a2_2 a2_1).bind fun bt460 => ((diacriticref01_Fail.f a1_0 a1_1 a1_2 a1_3 a1_4 a2_2 a2_1).bind fun bt465 => (some (bt465.1, bt465.2.1, bt465.2.2.1, bt465.2.2.2.1, bt465.2.2.2.2, true, bt460.1, bt460.2.1, bt460.2.2.1, bt460.2.2.2.1, bt460.2.2.2.2)))) else (some (a1_0, a1_1, a1_2, a1_3, a1_4, true, s0_0, s0_1, s0_2, s0_3, s0_4))))))))))) = some (r1, r2, r3, r4, r5, r6, r7, r8, r9, r10, r11) := h
  clear h
  by_cases c4 : a2_0 = 0
  · exact absurd c4 (by have h_ := hcs_.out; omega)
  · rw [if_neg c4] at H
    have c4b0 : (a2_0 == 0) = false := beq_eq_false_iff_ne.mpr c4
    have c4b1 : (a2_0 != 0) = true := bne_iff_ne.mpr c4
    by_cases c32 : a2_0 = 1
    · exact absurd c32 (by have h_ := hcs_.out; omega)
    · rw [if_neg c32] at H
      have c32b0 : (a2_0 == 1) = false := beq_eq_false_iff_ne.mpr c32
      have c32b1 : (a2_0 != 1) = true := bne_iff_ne.mpr c32
      by_cases c61 : a2_0 = 2
      · exact absurd c61 (by have h_ := hcs_.out; omega)
      · rw [if_neg c61] at H
        have c61b0 : (a2_0 == 2) = false := beq_eq_false_iff_ne.mpr c61
        have c61b1 : (a2_0 != 2) = true := bne_iff_ne.mpr c61
        by_cases c79 : a2_0 = 3
        · exact absurd c79 (by have h_ := hcs_.out; omega)
        · rw [if_neg c79] at H
          have c79b0 : (a2_0 == 3) = false := beq_eq_false_iff_ne.mpr c79
          have c79b1 : (a2_0 != 3) = true := bne_iff_ne.mpr c79
          by_cases c108 : a2_0 = 4
          · exact absurd c108 (by have h_ := hcs_.out; omega)
          · rw [if_neg c108] at H
            have c108b0 : (a2_0 == 4) = false := beq_eq_false_iff_ne.mpr c108
            have c108b1 : (a2_0 != 4) = true := bne_iff_ne.mpr c108
            by_cases c138 : a2_0 = 5
            · exact absurd c138 (by have h_ := hcs_.out; omega)
            · rw [if_neg c138] at H
              have c138b0 : (a2_0 == 5) = false := beq_eq_false_iff_ne.mpr c138
              have c138b1 : (a2_0 != 5) = true := bne_iff_ne.mpr c138
              by_cases c166 : a2_0 = 6
              · exact absurd c166 (by have h_ := hcs_.out; omega)
              · rw [if_neg c166] at H
                have c166b0 : (a2_0 == 6) = false := beq_eq_false_iff_ne.mpr c166
                have c166b1 : (a2_0 != 6) = true := bne_iff_ne.mpr c166
                by_cases c194 : a2_0 = 7
                · exact absurd c194 (by have h_ := hcs_.out; omega)
                · rw [if_neg c194] at H
                  have c194b0 : (a2_0 == 7) = false := beq_eq_false_iff_ne.mpr c194
                  have c194b1 : (a2_0 != 7) = true := bne_iff_ne.mpr c194
                  by_cases c222 : a2_0 = 8
                  · exact absurd c222 (by have h_ := hcs_.out; omega)
                  · rw [if_neg c222] at H
                    have c222b0 : (a2_0 == 8) = false := beq_eq_false_iff_ne.mpr c222
                    have c222b1 : (a2_0 != 8) = true := bne_iff_ne.mpr c222
                    simp only [Option.some.injEq, Prod.mk.injEq] at H
                    obtain ⟨rfl, rfl, rfl, rfl, rfl, rfl, rfl, rfl, rfl, rfl, rfl⟩ := H
                    go_enter Try.func34, Try.ntmps34
                    go_wp2_with (first | ((with_reducible refine gate_dst (N := 4) rfl ?_); refine box_event ?hg (N := 4) ?hd (cs := #[.string a1_0, .int .i64 a1_1, .int .i64 a1_2, .int .i64 a1_3, .int .i64 a1_4]) (t := 54) ?hr ?_; (case hd => rfl); (case hg => rfl); (case hr => first | (go_simp; done) | (go_simp; rfl)); intro gb353 hg w240 hbox hb; have n0_ := Aside0.mk (IsS68.below q_2 hb); have n1_ := Aside0.mk (KeepBut.trans q_3 (KeepBut.of_below hb g none) (.inl rfl)); have n2_ := Aside0.mk (below_step q_4 hb); have n3_ := Aside0.mk (hbox); have n4_ := Aside0.mk ((q_101 : w.heap.size ≤ gb353)); have n5_ := Aside0.mk ((Nat.le_trans HW0.out (q_101 : w.heap.size ≤ gb353) : w0.heap.size ≤ gb353)); have n6_ := Aside0.mk ((q_5 : g ≠ gb353)); have n7_ := Aside0.mk ((q_6 : gb353 ≠ g)); clear HI0; clear HK; clear HB; have HI0 := n0_; have HK := n1_; have HB := n2_; have BK353 := n3_; have GW353 := n4_; have GE353 := n5_; have NB0_353 := n6_; have NB353_0 := n7_; clear n0_ n1_ n2_ n3_ n4_ n5_ n6_ n7_; clear hb hbox hg) | ((with_reducible refine gate_dst (N := 5) rfl ?_); refine box_event ?hg (N := 5) ?hd (cs := #[.int .i64 a2_0, .int .i64 a2_1, .int .i64 a2_2, .string a2_3]) (t := 56) ?hr ?_; (case hd => rfl); (case hg => rfl); (case hr => first | (go_simp; done) | (go_simp; rfl)); intro gb354 hg w241 hbox hb; have n0_ := Aside0.mk (IsS68.below q_44 hb); have n1_ := Aside0.mk (blk_below (g := gb353) (o := .cells #[.string a1_0, .int .i64 a1_1, .int .i64 a1_2, .int .i64 a1_3, .int .i64 a1_4] 54 (0, 0)) q_45 hb); have n2_ := Aside0.mk (KeepBut.trans q_46 (KeepBut.of_below hb g none) (.inl rfl)); have n3_ := Aside0.mk (below_step q_47 hb); have n4_ := Aside0.mk (hbox); have n5_ := Aside0.mk ((q_108 : w.heap.size ≤ gb354)); have n6_ := Aside0.mk ((Nat.le_trans HW0.out (q_108 : w.heap.size ≤ gb354) : w0.heap.size ≤ gb354)); have n7_ := Aside0.mk ((q_109 : gb353 ≠ gb354)); have n8_ := Aside0.mk ((q_110 : gb354 ≠ gb353)); have n9_ := Aside0.mk ((q_48 : g ≠ gb354)); have n10_ := Aside0.mk ((q_49 : gb354 ≠ g)); clear HI0; clear BK353; clear HK; clear HB; have HI0 := n0_; have BK353 := n1_; have HK := n2_; have HB := n3_; have BK354 := n4_; have GW354 := n5_; have GE354 := n6_; have NB353_354 := n7_; have NB354_353 := n8_; have NB0_354 := n9_; have NB354_0 := n10_; clear n0_ n1_ n2_ n3_ n4_ n5_ n6_ n7_ n8_ n9_ n10_; clear hb hbox hg) | ((with_reducible refine gate_dst (N := 6) rfl ?_); refine box_event ?hg (N := 6) ?hd (cs := #[.string (⟨#[]⟩ : ByteArray), .int .i64 0, .int .i64 0, .int .i64 0, .int .i64 0]) (t := 54) ?hr ?_; (case hd => rfl); (case hg => rfl); (case hr => first | (go_simp; done) | (go_simp; rfl)); intro gb355 hg w242 hbox hb; have n0_ := Aside0.mk (IsS68.below q_50 hb); have n1_ := Aside0.mk (blk_below (g := gb353) (o := .cells #[.string a1_0, .int .i64 a1_1, .int .i64 a1_2, .int .i64 a1_3, .int .i64 a1_4] 54 (0, 0)) q_45 hb); have n2_ := Aside0.mk (blk_below (g := gb354) (o := .cells #[.int .i64 a2_0, .int .i64 a2_1, .int .i64 a2_2, .string a2_3] 56 (0, 0)) q_51 hb); have n3_ := Aside0.mk (KeepBut.trans q_52 (KeepBut.of_below hb g none) (.inl rfl)); have n4_ := Aside0.mk (below_step q_53 hb); have n5_ := Aside0.mk (hbox); have n6_ := Aside0.mk ((q_111 : w.heap.size ≤ gb355)); have n7_ := Aside0.mk ((Nat.le_trans HW0.out (q_111 : w.heap.size ≤ gb355) : w0.heap.size ≤ gb355)); have n8_ := Aside0.mk ((q_109 : gb353 ≠ gb355)); have n9_ := Aside0.mk ((q_110 : gb355 ≠ gb353)); have n10_ := Aside0.mk ((q_112 : gb354 ≠ gb355)); have n11_ := Aside0.mk ((q_113 : gb355 ≠ gb354)); have n12_ := Aside0.mk ((q_54 : g ≠ gb355)); have n13_ := Aside0.mk ((q_55 : gb355 ≠ g)); clear HI0; clear BK353; clear BK354; clear HK; clear HB; have HI0 := n0_; have BK353 := n1_; have BK354 := n2_; have HK := n3_; have HB := n4_; have BK355 := n5_; have GW355 := n6_; have GE355 := n7_; have NB353_355 := n8_; have NB355_353 := n9_; have NB354_355 := n10_; have NB355_354 := n11_; have NB0_355 := n12_; have NB355_0 := n13_; clear n0_ n1_ n2_ n3_ n4_ n5_ n6_ n7_ n8_ n9_ n10_ n11_ n12_ n13_; clear hb hbox hg; have hnb243 := NB354_353.out; have hnc243 := NB353_354.out; have hnb244 := NB354_355.out; have hnc244 := NB355_354.out; have hnb245 := NB354_0.out; have hnc245 := NB0_354.out; obtain ⟨hcz246_0, hcz246_1, hcz246_2, hcz246_3, hfz246_0, hfz246_1, hfz246_2, hfz246_3⟩ := cells4_ BK354.out; have hnb247 := NB353_355.out; have hnc247 := NB355_353.out; have hnb248 := NB353_0.out; have hnc248 := NB0_353.out; obtain ⟨hcz249_0, hcz249_1, hcz249_2, hcz249_3, hcz249_4, hfz249_0, hfz249_1, hfz249_2, hfz249_3, hfz249_4⟩ := cells5_ BK353.out; have hnb250 := NB355_0.out; have hnc250 := NB0_355.out; obtain ⟨hcz251_0, hcz251_1, hcz251_2, hcz251_3, hcz251_4, hfz251_0, hfz251_1, hfz251_2, hfz251_3, hfz251_4⟩ := cells5_ BK355.out))
                    refine bodyPost_ret (results_ct rfl _ _ gb355 54 #[.string a1_0, .int .i64 a1_1, .int .i64 a1_2, .int .i64 a1_3, .int .i64 a1_4] (0, 0) _ rfl (by (with_reducible repeat (first | refine blk_drewN ?_ _ | refine blk_drew ?_ | refine blk_alloc ?_ _)); refine blk_put (cs := #[.string a1_0, .int .i64 a1_1, .int .i64 a1_2, .int .i64 a1_3, .int .i64 0]) ?_ 4 _ rfl; (with_reducible repeat (first | refine blk_drewN ?_ _ | refine blk_drew ?_ | refine blk_alloc ?_ _)); refine blk_put (cs := #[.string a1_0, .int .i64 a1_1, .int .i64 a1_2, .int .i64 0, .int .i64 0]) ?_ 3 _ rfl; (with_reducible repeat (first | refine blk_drewN ?_ _ | refine blk_drew ?_ | refine blk_alloc ?_ _)); refine blk_put (cs := #[.string a1_0, .int .i64 a1_1, .int .i64 0, .int .i64 0, .int .i64 0]) ?_ 2 _ rfl; (with_reducible repeat (first | refine blk_drewN ?_ _ | refine blk_drew ?_ | refine blk_alloc ?_ _)); refine blk_put (cs := #[.string a1_0, .int .i64 0, .int .i64 0, .int .i64 0, .int .i64 0]) ?_ 1 _ rfl; (with_reducible repeat (first | refine blk_drewN ?_ _ | refine blk_drew ?_ | refine blk_alloc ?_ _)); refine blk_put (cs := #[.string (⟨#[]⟩ : ByteArray), .int .i64 0, .int .i64 0, .int .i64 0, .int .i64 0]) ?_ 0 _ rfl; (with_reducible repeat (first | refine blk_drewN ?_ _ | refine blk_drew ?_ | refine blk_alloc ?_ _)); exact BK355.out) Try.underlying54 rfl (by kernel_rfl)) rfl ?_
                    exact ⟨q_9, q_56, q_59, q_58⟩

end Go.Proofs.Ytkcckhlkaknggaa.PAll
