/- Written by a program of this session: functions of the Go program as Lean functions, and the walks that tie them to it. -/
import Derived.Test.YtlmhlmendnjmlaaDoorPAllx0
import Derived.Test.YtlmhlmendnjmlaaDoorPAllx1
import Derived.Test.YtlmhlmendnjmlaaDoorPAllx2
import Derived.Test.YtlmhlmendnjmlaaDoorPAllx3
import Derived.Test.YtlmhlmendnjmlaaDoorPAllx8
import Derived.Test.YtlmhlmendnjmlaaDoorPAllx11
import Derived.Test.YtlmhlmendnjmlaaDoorPAllx12
import Derived.Test.YtlmhlmendnjmlaaDoorPAllx14
import Derived.Test.YtlmhlmendnjmlaaDoorPAllx16
import Derived.Test.YtlmhlmendnjmlaaDoorPAllx17
import Derived.Test.YtlmhlmendnjmlaaDoorPAllx20
import Derived.Test.YtlmhlmendnjmlaaDoorPAllx21
namespace Go.Proofs.YtlmhlmendnjmlaaDoor.PAll
open Go.RowKit Go.Proofs.YtlmhlmendnjmlaaDoorW.PrintWords Go.Proofs.YtlmhlmendnjmlaaDoorW.PrintLast Go.Proofs.YtlmhlmendnjmlaaDoorW.PrintMore
attribute [local go_sem] max2_int min2_int max_two min_two max_three min_three max_four min_four   -- for this text's walks alone
set_option linter.unusedVariables false
set_option linter.unusedSimpArgs false

attribute [local go_sem high] eqA36 eqA39
/-! ### diacriticlaw13_FramePrints: function 7 -/
mutual
def diacriticlaw13_FramePrints.j0 : Nat → Int → ByteArray → Bool → ByteArray → Int → Int → Int → ByteArray → Int → Option (Bool)
  | 0, _, _, _, _, _, _, _, _, _ => none
  | k + 1, x0, x2, x28, x507000, x507001, x507002, x507003, x507004, x507005 => if x28 = true then ((diacriticlaw13_awake.f k).bind fun t507 => (some t507)) else ((frame_Frame_Print.f k x507000 x507001 x507002 x507003 x507004 x507005 x0).bind fun bt508 => ((diacriticlaw13_Of.f x507000 x507001 x507002 x507003 x507004 x507005).bind fun bt512 => ((diacriticref13_Check.f k x0 bt512.1 bt512.2.1 bt512.2.2.1 bt512.2.2.2.1 bt512.2.2.2.2.1 bt512.2.2.2.2.2).bind fun t518 => ((frame_Frame_Check.f k x507000 x507001 x507002 x507003 x507004 x507005 x0).bind fun bt519 => (if (!(bt519.1 == t518) || (!(bt519.2 == 0))) = true then (diacriticlaw13_FramePrints.j1 k x0 x2 bt508.1 t518 true x507000 x507001 x507002 x507003 x507004 x507005) else ((frame_Frame_Check.f k x507000 x507001 x507002 x507003 x507004 x507005 x0).bind fun bt521 => (diacriticlaw13_FramePrints.j1 k x0 x2 bt508.1 t518 (!(bt508.2.1 == bt521.1) || (!(bt508.2.2 == bt521.2))) x507000 x507001 x507002 x507003 x507004 x507005)))))))
def diacriticlaw13_FramePrints.j1 : Nat → Int → ByteArray → ByteArray → Int → Bool → ByteArray → Int → Int → Int → ByteArray → Int → Option (Bool)
  | 0, _, _, _, _, _, _, _, _, _, _, _ => none
  | k + 1, x0, x2, x7, x9, x52, x507000, x507001, x507002, x507003, x507004, x507005 => if x52 = true then (some false) else (if x9 = 0 then (if x7.size + x2.size ≤ 9223372036854775807 then ((octet_Read.f (x7 ++ x2)).bind fun bt524 => ((frame_Parse.f k x0 bt524.1 bt524.2.1 bt524.2.2.1 bt524.2.2.2.1 bt524.2.2.2.2 false).bind fun bt530 => ((diacriticlaw13_awake.f k).bind fun t543 => (if t543 = true then ((diacriticlaw13_Of.f x507000 x507001 x507002 x507003 x507004 0).bind fun bt544 => ((diacriticref13_Print.f k x0 bt544.1 bt544.2.1 bt544.2.2.1 bt544.2.2.2.1 bt544.2.2.2.2.1 bt544.2.2.2.2.2).bind fun t550 => (if x7.toList = t550.toList then (if bt530.2.2.2.2.2.2.1 = true then (if ((bt530.1.toList == x507000.toList && (bt530.2.1 == x507001 && (bt530.2.2.1 == x507002))) && (bt530.2.2.2.1 == x507003 && (bt530.2.2.2.2.1.toList == x507004.toList && (bt530.2.2.2.2.2.1 == 0)))) = true then ((octet_In_Rest.f bt530.2.2.2.2.2.2.2.1 bt530.2.2.2.2.2.2.2.2.1 bt530.2.2.2.2.2.2.2.2.2.1 bt530.2.2.2.2.2.2.2.2.2.2.1 bt530.2.2.2.2.2.2.2.2.2.2.2).bind fun bt551 => (some (bt551.1.toList == x2.toList))) else (some false)) else (some false)) else (some false)))) else (some false))))) else (none)) else ((diacriticlaw13_awake.f k).bind fun t523 => (if t523 = true then (some (x7.toList == ([] : List UInt8))) else (some false))))
end
def diacriticlaw13_FramePrints.f (k : Nat) (a0 : Int) (a1_0 : ByteArray) (a1_1 : Int) (a1_2 : Int) (a1_3 : Int) (a1_4 : ByteArray) (a1_5 : Int) (a2 : ByteArray) : Option (Bool) := if (a1_4.size : Int) > 1000 then (diacriticlaw13_FramePrints.j0 k a0 a2 true a1_0 a1_1 a1_2 a1_3 a1_4 a1_5) else (if (a1_0.size : Int) > 100 then (diacriticlaw13_FramePrints.j0 k a0 a2 true a1_0 a1_1 a1_2 a1_3 a1_4 a1_5) else (diacriticlaw13_FramePrints.j0 k a0 a2 (decide ((a2.size : Int) > 100)) a1_0 a1_1 a1_2 a1_3 a1_4 a1_5))
theorem diacriticlaw13_FramePrints.mono_l : ∀ k, (∀ y0 y1 y2 y3 y4 y5 y6 y7 y8, LeO (diacriticlaw13_FramePrints.j0 k y0 y1 y2 y3 y4 y5 y6 y7 y8) (diacriticlaw13_FramePrints.j0 (k + 1) y0 y1 y2 y3 y4 y5 y6 y7 y8)) ∧ (∀ y0 y1 y2 y3 y4 y5 y6 y7 y8 y9 y10, LeO (diacriticlaw13_FramePrints.j1 k y0 y1 y2 y3 y4 y5 y6 y7 y8 y9 y10) (diacriticlaw13_FramePrints.j1 (k + 1) y0 y1 y2 y3 y4 y5 y6 y7 y8 y9 y10))
  | 0 => ⟨fun _ _ _ _ _ _ _ _ _ r h => by simp [diacriticlaw13_FramePrints.j0] at h, fun _ _ _ _ _ _ _ _ _ _ _ r h => by simp [diacriticlaw13_FramePrints.j1] at h⟩
  | k + 1 => by
    obtain ⟨ih0, ih1⟩ := diacriticlaw13_FramePrints.mono_l k
    refine ⟨?_, ?_⟩
    · intro y0 y1 y2 y3 y4 y5 y6 y7 y8
      unfold diacriticlaw13_FramePrints.j0
      repeat' first
      | (with_reducible exact ih0 _ _ _ _ _ _ _ _ _)
      | (with_reducible exact ih1 _ _ _ _ _ _ _ _ _ _ _)
      | (with_reducible exact diacriticlaw13_awake.mono _)
      | (with_reducible exact diacriticref13_Check.mono _ _ _ _ _ _ _ _)
      | (with_reducible exact diacriticref13_Print.mono _ _ _ _ _ _ _ _)
      | (with_reducible exact frame_Frame_Check.mono _ _ _ _ _ _ _ _)
      | (with_reducible exact frame_Frame_Print.mono _ _ _ _ _ _ _ _)
      | (with_reducible exact frame_Parse.mono _ _ _ _ _ _ _ _)
      | (with_reducible exact LeO.refl _)
      | (with_reducible exact LeO.none _)
      | (with_reducible refine LeO.ite ?_ ?_)
      | (with_reducible refine LeO.bind ?_ (fun _ => ?_))
      | exact ih0 _ _ _ _ _ _ _ _ _
      | exact ih1 _ _ _ _ _ _ _ _ _ _ _
      | exact diacriticlaw13_awake.mono _
      | exact diacriticref13_Check.mono _ _ _ _ _ _ _ _
      | exact diacriticref13_Print.mono _ _ _ _ _ _ _ _
      | exact frame_Frame_Check.mono _ _ _ _ _ _ _ _
      | exact frame_Frame_Print.mono _ _ _ _ _ _ _ _
      | exact frame_Parse.mono _ _ _ _ _ _ _ _
      | exact LeO.none _
      | refine LeO.ite ?_ ?_
      | refine LeO.bind ?_ (fun _ => ?_)
    · intro y0 y1 y2 y3 y4 y5 y6 y7 y8 y9 y10
      unfold diacriticlaw13_FramePrints.j1
      repeat' first
      | (with_reducible exact ih0 _ _ _ _ _ _ _ _ _)
      | (with_reducible exact ih1 _ _ _ _ _ _ _ _ _ _ _)
      | (with_reducible exact diacriticlaw13_awake.mono _)
      | (with_reducible exact diacriticref13_Check.mono _ _ _ _ _ _ _ _)
      | (with_reducible exact diacriticref13_Print.mono _ _ _ _ _ _ _ _)
      | (with_reducible exact frame_Frame_Check.mono _ _ _ _ _ _ _ _)
      | (with_reducible exact frame_Frame_Print.mono _ _ _ _ _ _ _ _)
      | (with_reducible exact frame_Parse.mono _ _ _ _ _ _ _ _)
      | (with_reducible exact LeO.refl _)
      | (with_reducible exact LeO.none _)
      | (with_reducible refine LeO.ite ?_ ?_)
      | (with_reducible refine LeO.bind ?_ (fun _ => ?_))
      | exact ih0 _ _ _ _ _ _ _ _ _
      | exact ih1 _ _ _ _ _ _ _ _ _ _ _
      | exact diacriticlaw13_awake.mono _
      | exact diacriticref13_Check.mono _ _ _ _ _ _ _ _
      | exact diacriticref13_Print.mono _ _ _ _ _ _ _ _
      | exact frame_Frame_Check.mono _ _ _ _ _ _ _ _
      | exact frame_Frame_Print.mono _ _ _ _ _ _ _ _
      | exact frame_Parse.mono _ _ _ _ _ _ _ _
      | exact LeO.none _
      | refine LeO.ite ?_ ?_
      | refine LeO.bind ?_ (fun _ => ?_)
theorem diacriticlaw13_FramePrints.mono : ∀ a0 a1 a2 a3 a4 a5 a6 a7 k, LeO (diacriticlaw13_FramePrints.f k a0 a1 a2 a3 a4 a5 a6 a7) (diacriticlaw13_FramePrints.f (k + 1) a0 a1 a2 a3 a4 a5 a6 a7) := by
  intro a0 a1 a2 a3 a4 a5 a6 a7 k
  obtain ⟨ih0, ih1⟩ := diacriticlaw13_FramePrints.mono_l k
  unfold diacriticlaw13_FramePrints.f
  repeat' first
      | (with_reducible exact ih0 _ _ _ _ _ _ _ _ _)
      | (with_reducible exact ih1 _ _ _ _ _ _ _ _ _ _ _)
      | (with_reducible exact diacriticlaw13_awake.mono _)
      | (with_reducible exact diacriticref13_Check.mono _ _ _ _ _ _ _ _)
      | (with_reducible exact diacriticref13_Print.mono _ _ _ _ _ _ _ _)
      | (with_reducible exact frame_Frame_Check.mono _ _ _ _ _ _ _ _)
      | (with_reducible exact frame_Frame_Print.mono _ _ _ _ _ _ _ _)
      | (with_reducible exact frame_Parse.mono _ _ _ _ _ _ _ _)
      | (with_reducible exact LeO.refl _)
      | (with_reducible exact LeO.none _)
      | (with_reducible refine LeO.ite ?_ ?_)
      | (with_reducible refine LeO.bind ?_ (fun _ => ?_))
      | exact ih0 _ _ _ _ _ _ _ _ _
      | exact ih1 _ _ _ _ _ _ _ _ _ _ _
      | exact diacriticlaw13_awake.mono _
      | exact diacriticref13_Check.mono _ _ _ _ _ _ _ _
      | exact diacriticref13_Print.mono _ _ _ _ _ _ _ _
      | exact frame_Frame_Check.mono _ _ _ _ _ _ _ _
      | exact frame_Frame_Print.mono _ _ _ _ _ _ _ _
      | exact frame_Parse.mono _ _ _ _ _ _ _ _
      | exact LeO.none _
      | refine LeO.ite ?_ ?_
      | refine LeO.bind ?_ (fun _ => ?_)
def diacriticlaw13_FramePrints.T5 : Bool × List (List Nat × List Nat) := (true, [([], []), ([], []), ([0, 1], [0, 1]), ([], []), ([3], [3]), ([2, 4], [2, 4]), ([5, 2], [5]), ([6], [6]), ([6], [6]), ([6], [6]), ([8, 9, 6, 6], [6, 8, 9]), ([7, 10, 6], [6, 7, 10]), ([6, 11], [6, 11])])
def diacriticlaw13_FramePrints.B5 : List Nat := [0, 0, 3, 0, 8, 31, 63, 127, 127, 127, 895, 2047, 4095]
theorem diacriticlaw13_FramePrints.tab5 : rtab .any (opsOf Tryd.f7 5) = diacriticlaw13_FramePrints.T5 := by kernel_rfl
theorem diacriticlaw13_FramePrints.bits5 : waitsOk diacriticlaw13_FramePrints.T5.2 diacriticlaw13_FramePrints.B5 = true := by kernel_rfl
set_option maxHeartbeats 8000000 in
set_option maxRecDepth 100000 in
theorem diacriticlaw13_FramePrints.calls (k : Nat) (a0 : Int) (a1_0 : ByteArray) (a1_1 : Int) (a1_2 : Int) (a1_3 : Int) (a1_4 : ByteArray) (a1_5 : Int) (a2 : ByteArray) (r : Bool) (w : World) (hG : GM w) (h : diacriticlaw13_FramePrints.f k a0 a1_0 a1_1 a1_2 a1_3 a1_4 a1_5 a2 = some r) :
    Calls Tryd.prog 7 #[.int .i64 a0, .agg #[.string a1_0, .int .u8 a1_1, .int .u8 a1_2, .int .u8 a1_3, .string a1_4, .int .i64 a1_5], .string a2] w fun e w' => e = .returned (.bool r) ∧ Below w.heap.size w w' := by
  have hu36 := Tryd.underlying36
  have hu39 := Tryd.underlying39
  have HB := Aside0.mk (Below.refl w.heap.size w)
  have HG := Aside0.mk hG
  clear hG
  have H : (if (a1_4.size : Int) > 1000 then (diacriticlaw13_FramePrints.j0 k a0 a2 true a1_0 a1_1 a1_2 a1_3 a1_4 a1_5) else (if (a1_0.size : Int) > 100 then (diacriticlaw13_FramePrints.j0 k a0 a2 true a1_0 a1_1 a1_2 a1_3 a1_4 a1_5) else (diacriticlaw13_FramePrints.j0 k a0 a2 (decide ((a2.size : Int) > 100)) a1_0 a1_1 a1_2 a1_3 a1_4 a1_5))) = some r := h
  clear h
  have HC4 := Aside0.mk H
  clear H
  go_enter Tryd.func7, Tryd.ntmps7
  go_upto_region 1 with (first | ((with_reducible refine gate_dst (N := 4) rfl ?_); (try (refine gate_guard (by rfl) ?_; dsimp only)); refine box_event ?hg (N := 4) ?hd (cs := #[.string a1_0, .int .u8 a1_1, .int .u8 a1_2, .int .u8 a1_3, .string a1_4, .int .i64 a1_5]) (t := 36) ?hr ?_; (case hd => rfl); (case hg => rfl); (case hr => first | (go_simp; done) | (go_simp; rfl)); intro gb506 hg w5 hbox hb; have n0_ := Aside0.mk (below_step q_3 hb); have n1_ := Aside0.mk (hbox); have n2_ := Aside0.mk ((by rw [hg]; exact (below_size q_3) : w.heap.size ≤ gb506)); have n3_ := Aside0.mk ((by rw [hg]; exact (below_size q_3) : w.heap.size ≤ gb506)); clear HB; have HB := n0_; have BK506 := n1_; have GW506 := n2_; have GE506 := n3_; clear n0_ n1_ n2_ n3_; clear hb hbox hg))
  (try simp only [Act.put, List.setIfInBounds_toArray, List.set_cons_zero, List.set_cons_succ])
  go_cut [28] (fun v28 wc => ∃ (kq : Nat) (x28_3 : Bool), v28 = .bool x28_3 ∧ Aside0 (diacriticlaw13_FramePrints.j0 kq a0 a2 x28_3 a1_0 a1_1 a1_2 a1_3 a1_4 a1_5 = some r) ∧ Aside0 (kq ≤ k) ∧ Aside0 (wc.heap[gb506]? = some (.cells #[.string a1_0, .int .u8 a1_1, .int .u8 a1_2, .int .u8 a1_3, .string a1_4, .int .i64 a1_5] 36 (0, 0))) ∧ Aside0 (Below w.heap.size w wc))
  case first =>
    have H := HC4.out
    clear HC4
    by_cases c6 : (a1_4.size : Int) > 1000
    · rw [if_pos c6] at H
      have c6b0 : decide (1000 < (a1_4.size : Int)) = true := decide_eq_true c6
      have c6b1 : decide (1000 < a1_4.size) = true := decide_eq_true (by omega)
      clear c6
      (first | rw [c6b0] | (simp only [i64_w, i32_w]; rw [c6b0]) | skip)
      have H' := Aside0.mk H
      clear H
      obtain ⟨hcz7_0, hcz7_1, hcz7_2, hcz7_3, hcz7_4, hcz7_5, hfz7_0, hfz7_1, hfz7_2, hfz7_3, hfz7_4, hfz7_5⟩ := cells6_ BK506.out
      go_wp2
      go_meet
      case rel => exact ⟨_, (true), q_1, H', ⟨by first | omega | exact Nat.le_refl _⟩, ⟨q_95⟩, ⟨q_94⟩⟩
    · rw [if_neg c6] at H
      have c6b0 : decide (1000 < (a1_4.size : Int)) = false := decide_eq_false c6
      have c6b1 : decide (1000 < a1_4.size) = false := decide_eq_false (by omega)
      clear c6
      (first | rw [c6b0] | (simp only [i64_w, i32_w]; rw [c6b0]) | skip)
      by_cases c8 : (a1_0.size : Int) > 100
      · rw [if_pos c8] at H
        have c8b0 : decide (100 < (a1_0.size : Int)) = true := decide_eq_true c8
        have c8b1 : decide (100 < a1_0.size) = true := decide_eq_true (by omega)
        clear c8
        have H' := Aside0.mk H
        clear H
        obtain ⟨hcz9_0, hcz9_1, hcz9_2, hcz9_3, hcz9_4, hcz9_5, hfz9_0, hfz9_1, hfz9_2, hfz9_3, hfz9_4, hfz9_5⟩ := cells6_ BK506.out
        go_wp2
        go_meet
        case rel => exact ⟨_, (true), q_1, H', ⟨by first | omega | exact Nat.le_refl _⟩, ⟨q_95⟩, ⟨q_94⟩⟩
      · rw [if_neg c8] at H
        have c8b0 : decide (100 < (a1_0.size : Int)) = false := decide_eq_false c8
        have c8b1 : decide (100 < a1_0.size) = false := decide_eq_false (by omega)
        clear c8
        have H' := Aside0.mk H
        clear H
        obtain ⟨hcz10_0, hcz10_1, hcz10_2, hcz10_3, hcz10_4, hcz10_5, hfz10_0, hfz10_1, hfz10_2, hfz10_3, hfz10_4, hfz10_5⟩ := cells6_ BK506.out
        go_wp2
        go_meet
        case rel => exact ⟨_, (decide ((a2.size : Int) > 100)), q_1, H', ⟨by first | omega | exact Nat.le_refl _⟩, ⟨q_95⟩, ⟨q_94⟩⟩
  case rest =>
    clear HC4
    try clear p2; try clear c6; try clear c6b0; try clear c6b1; try clear c7; try clear c8; try clear c8b0; try clear c8b1; try clear hcz10_0; try clear hcz10_1; try clear hcz10_2; try clear hcz10_3; try clear hcz10_4; try clear hcz10_5; try clear hcz7_0; try clear hcz7_1; try clear hcz7_2; try clear hcz7_3; try clear hcz7_4; try clear hcz7_5; try clear hcz9_0; try clear hcz9_1; try clear hcz9_2; try clear hcz9_3; try clear hcz9_4; try clear hcz9_5; try clear hfz10_0; try clear hfz10_1; try clear hfz10_2; try clear hfz10_3; try clear hfz10_4; try clear hfz10_5; try clear hfz7_0; try clear hfz7_1; try clear hfz7_2; try clear hfz7_3; try clear hfz7_4; try clear hfz7_5; try clear hfz9_0; try clear hfz9_1; try clear hfz9_2; try clear hfz9_3; try clear hfz9_4; try clear hfz9_5
    obtain ⟨kq, x28_3, rfl, HA, HJ3, BK506, HB⟩ := hcut
    cases kq with
    | zero => exact absurd HA.out (by simp [diacriticlaw13_FramePrints.j0])
    | succ kj3 =>
      have H := HA.out
      clear HA
      simp only [diacriticlaw13_FramePrints.j0] at H
      by_cases c11 : x28_3 = true
      · subst c11
        have H1 : ((diacriticlaw13_awake.f kj3).bind fun t507 => (some t507)) = some r := by rw [if_pos rfl] at H; exact H
        clear H
        have H := H1
        clear H1
        replace H := Option.bind_eq_some_iff.mp H
        obtain ⟨t507, A120, H⟩ := H
        replace H : (some t507) = some r := H
        have A12 := Aside0.mk A120
        clear A120
        obtain rfl := Option.some.inj H
        go_wp2_with (first | ((with_reducible refine gate_callee (f := 18) rfl ?_); refine goesL_ (some 29) rfl rfl Tryd.func18 (by kernel_rfl) rfl #[] rfl q_7 ?_; (with_reducible refine (diacriticlaw13_awake.calls kj3  t507 _ (GM.below HG.out q_94) A12.out).mono ?_); rintro e w13 ⟨rfl, hb⟩; refine ⟨_, rfl, ?_⟩; have n0_ := Aside0.mk (blk_below (g := gb506) (o := .cells #[.string a1_0, .int .u8 a1_1, .int .u8 a1_2, .int .u8 a1_3, .string a1_4, .int .i64 a1_5] 36 (0, 0)) q_95 hb); have n1_ := Aside0.mk (below_step q_94 hb); clear BK506; clear HB; have BK506 := n0_; have HB := n1_; clear n0_ n1_; (try clear hb); (try clear hb2); (try clear hk); (try clear hi)))
        go_ret
        exact ⟨q_11, q_94⟩
      · replace c11 := Bool.eq_false_iff.mpr c11
        subst c11
        have H1 : ((frame_Frame_Print.f kj3 a1_0 a1_1 a1_2 a1_3 a1_4 a1_5 a0).bind fun bt508 => ((diacriticlaw13_Of.f a1_0 a1_1 a1_2 a1_3 a1_4 a1_5).bind fun bt512 => ((diacriticref13_Check.f kj3 a0 bt512.1 bt512.2.1 bt512.2.2.1 bt512.2.2.2.1 bt512.2.2.2.2.1 bt512.2.2.2.2.2).bind fun t518 => ((frame_Frame_Check.f kj3 a1_0 a1_1 a1_2 a1_3 a1_4 a1_5 a0).bind fun bt519 => (if (!(bt519.1 == t518) || (!(bt519.2 == 0))) = true then (diacriticlaw13_FramePrints.j1 kj3 a0 a2 bt508.1 t518 true a1_0 a1_1 a1_2 a1_3 a1_4 a1_5) else ((frame_Frame_Check.f kj3 a1_0 a1_1 a1_2 a1_3 a1_4 a1_5 a0).bind fun bt521 => (diacriticlaw13_FramePrints.j1 kj3 a0 a2 bt508.1 t518 (!(bt508.2.1 == bt521.1) || (!(bt508.2.2 == bt521.2))) a1_0 a1_1 a1_2 a1_3 a1_4 a1_5))))))) = some r := by rw [if_neg (show ¬ (false = true) by decide)] at H; exact H
        clear H
        have H := H1
        clear H1
        replace H := Option.bind_eq_some_iff.mp H
        obtain ⟨⟨t508, t509, t510⟩, A140, H⟩ := H
        replace H : ((diacriticlaw13_Of.f a1_0 a1_1 a1_2 a1_3 a1_4 a1_5).bind fun bt512 => ((diacriticref13_Check.f kj3 a0 bt512.1 bt512.2.1 bt512.2.2.1 bt512.2.2.2.1 bt512.2.2.2.2.1 bt512.2.2.2.2.2).bind fun t518 => ((frame_Frame_Check.f kj3 a1_0 a1_1 a1_2 a1_3 a1_4 a1_5 a0).bind fun bt519 => (if (!(bt519.1 == t518) || (!(bt519.2 == 0))) = true then (diacriticlaw13_FramePrints.j1 kj3 a0 a2 t508 t518 true a1_0 a1_1 a1_2 a1_3 a1_4 a1_5) else ((frame_Frame_Check.f kj3 a1_0 a1_1 a1_2 a1_3 a1_4 a1_5 a0).bind fun bt521 => (diacriticlaw13_FramePrints.j1 kj3 a0 a2 t508 t518 (!(t509 == bt521.1) || (!(t510 == bt521.2))) a1_0 a1_1 a1_2 a1_3 a1_4 a1_5)))))) = some r := H
        have A14 := Aside0.mk A140
        clear A140
        replace H := Option.bind_eq_some_iff.mp H
        obtain ⟨⟨t512, t513, t514, t515, t516, t517⟩, A150, H⟩ := H
        replace H : ((diacriticref13_Check.f kj3 a0 t512 t513 t514 t515 t516 t517).bind fun t518 => ((frame_Frame_Check.f kj3 a1_0 a1_1 a1_2 a1_3 a1_4 a1_5 a0).bind fun bt519 => (if (!(bt519.1 == t518) || (!(bt519.2 == 0))) = true then (diacriticlaw13_FramePrints.j1 kj3 a0 a2 t508 t518 true a1_0 a1_1 a1_2 a1_3 a1_4 a1_5) else ((frame_Frame_Check.f kj3 a1_0 a1_1 a1_2 a1_3 a1_4 a1_5 a0).bind fun bt521 => (diacriticlaw13_FramePrints.j1 kj3 a0 a2 t508 t518 (!(t509 == bt521.1) || (!(t510 == bt521.2))) a1_0 a1_1 a1_2 a1_3 a1_4 a1_5))))) = some r := H
        have A15 := Aside0.mk A150
        clear A150
        replace H := Option.bind_eq_some_iff.mp H
        obtain ⟨t518, A160, H⟩ := H
        replace H : ((frame_Frame_Check.f kj3 a1_0 a1_1 a1_2 a1_3 a1_4 a1_5 a0).bind fun bt519 => (if (!(bt519.1 == t518) || (!(bt519.2 == 0))) = true then (diacriticlaw13_FramePrints.j1 kj3 a0 a2 t508 t518 true a1_0 a1_1 a1_2 a1_3 a1_4 a1_5) else ((frame_Frame_Check.f kj3 a1_0 a1_1 a1_2 a1_3 a1_4 a1_5 a0).bind fun bt521 => (diacriticlaw13_FramePrints.j1 kj3 a0 a2 t508 t518 (!(t509 == bt521.1) || (!(t510 == bt521.2))) a1_0 a1_1 a1_2 a1_3 a1_4 a1_5)))) = some r := H
        have A16 := Aside0.mk A160
        clear A160
        have HC17 := Aside0.mk H
        clear H
        obtain ⟨hcz18_0, hcz18_1, hcz18_2, hcz18_3, hcz18_4, hcz18_5, hfz18_0, hfz18_1, hfz18_2, hfz18_3, hfz18_4, hfz18_5⟩ := cells6_ BK506.out
        go_upto_region 5 with (first | ((with_reducible refine gate_callee (f := 31) rfl ?_); refine goesL_ (some 33) rfl rfl Tryd.func31 (by kernel_rfl) rfl #[.agg #[.string a1_0, .int .u8 a1_1, .int .u8 a1_2, .int .u8 a1_3, .string a1_4, .int .i64 a1_5], .int .i64 a0] rfl q_7 ?_; (with_reducible refine (frame_Frame_Print.calls kj3 a1_0 a1_1 a1_2 a1_3 a1_4 a1_5 a0 t508 t509 t510 _ A14.out).mono ?_); rintro e w19 ⟨rfl, hb⟩; refine ⟨_, rfl, ?_⟩; have n0_ := Aside0.mk (blk_below (g := gb506) (o := .cells #[.string a1_0, .int .u8 a1_1, .int .u8 a1_2, .int .u8 a1_3, .string a1_4, .int .i64 a1_5] 36 (0, 0)) q_95 hb); have n1_ := Aside0.mk (below_step q_94 hb); clear BK506; clear HB; have BK506 := n0_; have HB := n1_; clear n0_ n1_; (try clear hb); (try clear hb2); (try clear hk); (try clear hi)) | ((with_reducible refine gate_dst (N := 8) rfl ?_); (try (refine gate_guard (by rfl) ?_; dsimp only)); refine box_event ?hg (N := 8) ?hd (cs := #[.int .i64 0, .int .i64 0]) (t := 39) ?hr ?_; (case hd => rfl); (case hg => rfl); (case hr => first | (go_simp; done) | (go_simp; rfl)); intro gb511 hg w20 hbox hb; have n0_ := Aside0.mk (blk_below (g := gb506) (o := .cells #[.string a1_0, .int .u8 a1_1, .int .u8 a1_2, .int .u8 a1_3, .string a1_4, .int .i64 a1_5] 36 (0, 0)) q_95 hb); have n1_ := Aside0.mk (below_step q_94 hb); have n2_ := Aside0.mk (hbox); have n3_ := Aside0.mk ((by rw [hg]; exact (below_size q_94) : w.heap.size ≤ gb511)); have n4_ := Aside0.mk ((by rw [hg]; exact (below_size q_94) : w.heap.size ≤ gb511)); have n5_ := Aside0.mk ((q_149 : gb506 ≠ gb511)); have n6_ := Aside0.mk ((q_150 : gb511 ≠ gb506)); clear BK506; clear HB; have BK506 := n0_; have HB := n1_; have BK511 := n2_; have GW511 := n3_; have GE511 := n4_; have NB506_511 := n5_; have NB511_506 := n6_; clear n0_ n1_ n2_ n3_ n4_ n5_ n6_; clear hb hbox hg; have hnb21 := NB511_506.out; have hnc21 := NB506_511.out; obtain ⟨hcz22_0, hcz22_1, hfz22_0, hfz22_1⟩ := cells2_ BK511.out; obtain ⟨hcz23_0, hcz23_1, hcz23_2, hcz23_3, hcz23_4, hcz23_5, hfz23_0, hfz23_1, hfz23_2, hfz23_3, hfz23_4, hfz23_5⟩ := cells6_ BK506.out) | ((with_reducible refine gate_callee (f := 33) rfl ?_); refine goesL_ (some 38) rfl rfl Tryd.func33 (by kernel_rfl) rfl #[.agg #[.string a1_0, .int .u8 a1_1, .int .u8 a1_2, .int .u8 a1_3, .string a1_4, .int .i64 a1_5]] rfl q_7 ?_; (with_reducible refine (diacriticlaw13_Of.calls a1_0 a1_1 a1_2 a1_3 a1_4 a1_5 t512 t513 t514 t515 t516 t517 _ A15.out).mono ?_); rintro e w24 ⟨rfl, hb⟩; refine ⟨_, rfl, ?_⟩; have n0_ := Aside0.mk (blk_below (g := gb506) (o := .cells #[.string a1_0, .int .u8 a1_1, .int .u8 a1_2, .int .u8 a1_3, .string a1_4, .int .i64 a1_5] 36 (0, 0)) (by (with_reducible repeat (first | refine blk_drewN ?_ _ | refine blk_drew ?_ | refine blk_alloc ?_ _)); refine blk_far ?_ NB506_511.out _; (with_reducible repeat (first | refine blk_drewN ?_ _ | refine blk_drew ?_ | refine blk_alloc ?_ _)); refine blk_far ?_ NB506_511.out _; (with_reducible repeat (first | refine blk_drewN ?_ _ | refine blk_drew ?_ | refine blk_alloc ?_ _)); exact BK506.out) hb); have n1_ := Aside0.mk (blk_below (g := gb511) (o := .cells #[.int .i64 t509, .int .i64 t510] 39 (0, 0)) (by (with_reducible repeat (first | refine blk_drewN ?_ _ | refine blk_drew ?_ | refine blk_alloc ?_ _)); refine blk_put (cs := #[.int .i64 t509, .int .i64 0]) ?_ 1 _ rfl; (with_reducible repeat (first | refine blk_drewN ?_ _ | refine blk_drew ?_ | refine blk_alloc ?_ _)); refine blk_put (cs := #[.int .i64 0, .int .i64 0]) ?_ 0 _ rfl; (with_reducible repeat (first | refine blk_drewN ?_ _ | refine blk_drew ?_ | refine blk_alloc ?_ _)); exact BK511.out) hb); have n2_ := Aside0.mk (below_step q_96 hb); clear BK506; clear BK511; clear HB; have BK506 := n0_; have BK511 := n1_; have HB := n2_; clear n0_ n1_ n2_; (try clear hb); (try clear hb2); (try clear hk); (try clear hi)) | ((with_reducible refine gate_callee (f := 32) rfl ?_); refine goesL_ (some 39) rfl rfl Tryd.func32 (by kernel_rfl) rfl #[.int .i64 a0, .agg #[.string t512, .int .i64 t513, .int .i64 t514, .int .i64 t515, .string t516, .int .i64 t517]] rfl q_7 ?_; (with_reducible refine (diacriticref13_Check.calls kj3 a0 t512 t513 t514 t515 t516 t517 t518 _ A16.out).mono ?_); rintro e w25 ⟨rfl, hb⟩; refine ⟨_, rfl, ?_⟩; have n0_ := Aside0.mk (blk_below (g := gb506) (o := .cells #[.string a1_0, .int .u8 a1_1, .int .u8 a1_2, .int .u8 a1_3, .string a1_4, .int .i64 a1_5] 36 (0, 0)) q_95 hb); have n1_ := Aside0.mk (blk_below (g := gb511) (o := .cells #[.int .i64 t509, .int .i64 t510] 39 (0, 0)) q_97 hb); have n2_ := Aside0.mk (below_step q_96 hb); clear BK506; clear BK511; clear HB; have BK506 := n0_; have BK511 := n1_; have HB := n2_; clear n0_ n1_ n2_; (try clear hb); (try clear hb2); (try clear hk); (try clear hi)))
        (try simp only [Act.put, List.setIfInBounds_toArray, List.set_cons_zero, List.set_cons_succ])
        go_cut [52] (fun v52 wc => ∃ (kq : Nat) (x52_16 : Bool), v52 = .bool x52_16 ∧ Aside0 (diacriticlaw13_FramePrints.j1 kq a0 a2 t508 t518 x52_16 a1_0 a1_1 a1_2 a1_3 a1_4 a1_5 = some r) ∧ Aside0 (kq ≤ kj3) ∧ Aside0 (wc.heap[gb506]? = some (.cells #[.string a1_0, .int .u8 a1_1, .int .u8 a1_2, .int .u8 a1_3, .string a1_4, .int .i64 a1_5] 36 (0, 0))) ∧ Aside0 (wc.heap[gb511]? = some (.cells #[.int .i64 t509, .int .i64 t510] 39 (0, 0))) ∧ Aside0 (Below w.heap.size w wc))
        case first =>
          have H := HC17.out
          clear HC17
          replace H := Option.bind_eq_some_iff.mp H
          obtain ⟨⟨t519, t520⟩, A260, H⟩ := H
          replace H : (if (!(t519 == t518) || (!(t520 == 0))) = true then (diacriticlaw13_FramePrints.j1 kj3 a0 a2 t508 t518 true a1_0 a1_1 a1_2 a1_3 a1_4 a1_5) else ((frame_Frame_Check.f kj3 a1_0 a1_1 a1_2 a1_3 a1_4 a1_5 a0).bind fun bt521 => (diacriticlaw13_FramePrints.j1 kj3 a0 a2 t508 t518 (!(t509 == bt521.1) || (!(t510 == bt521.2))) a1_0 a1_1 a1_2 a1_3 a1_4 a1_5))) = some r := H
          have A26 := Aside0.mk A260
          clear A260
          by_cases c27 : (!(t519 == t518) || (!(t520 == 0))) = true
          · rw [if_pos c27] at H
            have c27b0 : (!(t519 == t518) || (!(t520 == 0))) = true := c27
            clear c27
            (first | rw [c27b0] | (simp only [i64_w, i32_w]; rw [c27b0]) | skip)
            have H' := Aside0.mk H
            clear H
            try go_wp2
            have n0_ := Aside0.mk (blk_drew BK506.out)
            have n1_ := Aside0.mk (blk_drew BK511.out)
            have n2_ := Aside0.mk (below_drew1 HB.out)
            clear BK506
            clear BK511
            clear HB
            have BK506 := n0_
            have BK511 := n1_
            have HB := n2_
            clear n0_ n1_ n2_
            refine start_ (n := 13) (S := fun w' => w'.cell? ⟨gb506, 0, none⟩ = some (.string a1_0) ∧ w'.cell? ⟨gb506, 1, none⟩ = some (.int .u8 a1_1) ∧ w'.cell? ⟨gb506, 2, none⟩ = some (.int .u8 a1_2) ∧ w'.cell? ⟨gb506, 3, none⟩ = some (.int .u8 a1_3) ∧ w'.cell? ⟨gb506, 4, none⟩ = some (.string a1_4) ∧ w'.cell? ⟨gb506, 5, none⟩ = some (.int .i64 a1_5)) (ds := []) #[false, false, false, false, false, false, false, false, false, false, false, false, false] (by kernel_rfl) rfl rfl ⟨(blk_cell BK506.out 0).trans rfl, (blk_cell BK506.out 1).trans rfl, (blk_cell BK506.out 2).trans rfl, (blk_cell BK506.out 3).trans rfl, (blk_cell BK506.out 4).trans rfl, (blk_cell BK506.out 5).trans rfl⟩ (fun hHeld => ?_); refine with_tabW diacriticlaw13_FramePrints.tab5 diacriticlaw13_FramePrints.bits5 (fun HT_ HW_ => ?_)
            generalize w25.drew = w28 at BK506 BK511 HB hHeld ⊢
            refine pure_ (i := 1) (N := some 41) (v := ?_) (a' := ?_) #[false, true, false, false, false, false, false, false, false, false, false, false, false] rfl rfl (any_of HT_.out (by kernel_rfl)) (fun _ _ _ h => h) (Or.inl ⟨by rfl, ?_⟩) ?_ ?_
            rotate_left
            · intro w'
              go_simp
              with_reducible rfl
            rotate_left
            · simp only [Act.put, List.setIfInBounds_toArray, List.set_cons_zero, List.set_cons_succ, i64_w, i32_w]
              rfl
            refine pure_ (i := 3) (N := some 43) (v := ?_) (a' := ?_) #[false, true, false, true, false, false, false, false, false, false, false, false, false] rfl rfl (any_of HT_.out (by kernel_rfl)) (fun _ _ _ h => h) (Or.inl ⟨by rfl, ?_⟩) ?_ ?_
            rotate_left
            · intro w'
              go_simp
              with_reducible rfl
            rotate_left
            · simp only [Act.put, List.setIfInBounds_toArray, List.set_cons_zero, List.set_cons_succ, i64_w, i32_w]
              rfl
            refine pure_ (i := 4) (N := some 44) (v := ?_) (a' := ?_) #[false, true, false, true, true, false, false, false, false, false, false, false, false] rfl rfl (any_of HT_.out (by kernel_rfl)) (fun _ _ _ h => h) (Or.inl ⟨by rfl, ?_⟩) ?_ ?_
            rotate_left
            · intro w'
              go_simp
              with_reducible rfl
            rotate_left
            · simp only [Act.put, List.setIfInBounds_toArray, List.set_cons_zero, List.set_cons_succ, i64_w, i32_w]
              rfl
            refine take_ (i := 0) (N := some 40) (v := ?_) (a' := ?_) #[true, true, false, true, true, false, false, false, false, false, false, false, false] rfl rfl (take_ofW HT_.out HW_.out (by kernel_rfl)) (fun _ _ _ h => h) (Or.inl ⟨by rfl, ?_⟩) hHeld ?_ ?_
            rotate_left
            · rintro w' ⟨s0, s1, s2, s3, s4, s5⟩
              go_simp
              with_reducible rfl
            rotate_left
            · simp only [Act.put, List.setIfInBounds_toArray, List.set_cons_zero, List.set_cons_succ, i64_w, i32_w]
              rfl
            refine one_ (i := 2) (N := some 42) #[true, true, true, true, true, false, false, false, false, false, false, false, false] rfl rfl (one_of HT_.out (by kernel_rfl)) (by decide) (fun K hK => ?_)
            refine goes_ Tryd.func34 (by kernel_rfl) rfl #[.agg #[.string a1_0, .int .u8 a1_1, .int .u8 a1_2, .int .u8 a1_3, .string a1_4, .int .i64 a1_5], .int .i64 a0] (by rfl) rfl rfl q_7 ?_
            with_reducible refine (frame_Frame_Check.calls kj3 a1_0 a1_1 a1_2 a1_3 a1_4 a1_5 a0 t519 t520 _ A26.out).mono ?_
            rintro e w29 ⟨rfl, hb⟩
            refine ⟨_, rfl, ?_⟩
            have n0_ := Aside0.mk (blk_below (g := gb506) (o := .cells #[.string a1_0, .int .u8 a1_1, .int .u8 a1_2, .int .u8 a1_3, .string a1_4, .int .i64 a1_5] 36 (0, 0)) q_95 hb)
            have n1_ := Aside0.mk (blk_below (g := gb511) (o := .cells #[.int .i64 t509, .int .i64 t510] 39 (0, 0)) q_97 hb)
            have n2_ := Aside0.mk (below_step q_96 hb)
            clear BK506
            clear BK511
            clear HB
            have BK506 := n0_
            have BK511 := n1_
            have HB := n2_
            clear n0_ n1_ n2_
            (try clear hb)
            (try clear hb2)
            (try clear hk)
            (try clear hi)
            refine hK.out _ _ ⟨(blk_cell BK506.out 0).trans rfl, (blk_cell BK506.out 1).trans rfl, (blk_cell BK506.out 2).trans rfl, (blk_cell BK506.out 3).trans rfl, (blk_cell BK506.out 4).trans rfl, (blk_cell BK506.out 5).trans rfl⟩ (fun hHeld => ?_)
            clear hK K
            refine norm_ (a' := ?_) ?_ ?_
            rotate_left
            · show Act.put _ (some 42) _ = _
              simp only [Act.put, List.setIfInBounds_toArray, List.set_cons_zero, List.set_cons_succ, i64_w, i32_w]
              rfl
            refine pure_ (i := 5) (N := some 45) (v := ?_) (a' := ?_) #[true, true, true, true, true, true, false, false, false, false, false, false, false] rfl rfl (any_of HT_.out (by kernel_rfl)) (fun _ _ _ h => h) (Or.inl ⟨by rfl, ?_⟩) ?_ ?_
            rotate_left
            · intro w'
              go_simp
              with_reducible rfl
            rotate_left
            · simp only [Act.put, List.setIfInBounds_toArray, List.set_cons_zero, List.set_cons_succ, i64_w, i32_w]
              rfl
            refine pure_ (i := 6) (N := some 46) (v := ?_) (a' := ?_) #[true, true, true, true, true, true, true, false, false, false, false, false, false] rfl rfl (any_of HT_.out (by kernel_rfl)) (fun _ _ _ h => h) (Or.inl ⟨by rfl, ?_⟩) ?_ ?_
            rotate_left
            · intro w'
              go_simp
              with_reducible rfl
            rotate_left
            · simp only [Act.put, List.setIfInBounds_toArray, List.set_cons_zero, List.set_cons_succ, i64_w, i32_w]
              rfl
            refine pure_ (i := 7) (N := some 47) (v := undef) (a' := ?_) #[true, true, true, true, true, true, true, true, false, false, false, false, false] rfl rfl (any_of HT_.out (by kernel_rfl)) (fun _ _ _ h => h) (Or.inr ⟨by rfl, rfl⟩) ?_ ?_
            rotate_left
            · simp only [Act.put, List.setIfInBounds_toArray, List.set_cons_zero, List.set_cons_succ, i64_w, i32_w]
              rfl
            refine pure_ (i := 8) (N := some 48) (v := undef) (a' := ?_) #[true, true, true, true, true, true, true, true, true, false, false, false, false] rfl rfl (any_of HT_.out (by kernel_rfl)) (fun _ _ _ h => h) (Or.inr ⟨by rfl, rfl⟩) ?_ ?_
            rotate_left
            · simp only [Act.put, List.setIfInBounds_toArray, List.set_cons_zero, List.set_cons_succ, i64_w, i32_w]
              rfl
            refine pure_ (i := 9) (N := some 49) (v := undef) (a' := ?_) #[true, true, true, true, true, true, true, true, true, true, false, false, false] rfl rfl (any_of HT_.out (by kernel_rfl)) (fun _ _ _ h => h) (Or.inr ⟨by rfl, rfl⟩) ?_ ?_
            rotate_left
            · simp only [Act.put, List.setIfInBounds_toArray, List.set_cons_zero, List.set_cons_succ, i64_w, i32_w]
              rfl
            refine pure_ (i := 10) (N := some 50) (v := undef) (a' := ?_) #[true, true, true, true, true, true, true, true, true, true, true, false, false] rfl rfl (any_of HT_.out (by kernel_rfl)) (fun _ _ _ h => h) (Or.inr ⟨by rfl, rfl⟩) ?_ ?_
            rotate_left
            · simp only [Act.put, List.setIfInBounds_toArray, List.set_cons_zero, List.set_cons_succ, i64_w, i32_w]
              rfl
            refine pure_ (i := 11) (N := some 51) (v := undef) (a' := ?_) #[true, true, true, true, true, true, true, true, true, true, true, true, false] rfl rfl (any_of HT_.out (by kernel_rfl)) (fun _ _ _ h => h) (Or.inr ⟨by rfl, rfl⟩) ?_ ?_
            rotate_left
            · simp only [Act.put, List.setIfInBounds_toArray, List.set_cons_zero, List.set_cons_succ, i64_w, i32_w]
              rfl
            refine pure_ (i := 12) (N := some 52) (v := ?_) (a' := ?_) #[true, true, true, true, true, true, true, true, true, true, true, true, true] rfl rfl (any_of HT_.out (by kernel_rfl)) (fun _ _ _ h => h) (Or.inl ⟨by rfl, ?_⟩) ?_ ?_
            rotate_left
            · intro w'
              go_simp
              with_reducible rfl
            rotate_left
            · simp only [Act.put, List.setIfInBounds_toArray, List.set_cons_zero, List.set_cons_succ, i64_w, i32_w]
              rfl
            refine done_ (done_of HT_.out (by kernel_rfl)) ?_
            try go_wp2
            go_meet
            case rel => exact ⟨_, (true), q_1, H', ⟨q_29⟩, ⟨q_95⟩, ⟨q_97⟩, ⟨q_96⟩⟩
          · rw [if_neg c27] at H
            have c27b0 : (!(t519 == t518) || (!(t520 == 0))) = false := by simpa using c27
            clear c27
            (first | rw [c27b0] | (simp only [i64_w, i32_w]; rw [c27b0]) | skip)
            replace H := Option.bind_eq_some_iff.mp H
            obtain ⟨⟨t521, t522⟩, A300, H⟩ := H
            replace H : (diacriticlaw13_FramePrints.j1 kj3 a0 a2 t508 t518 (!(t509 == t521) || (!(t510 == t522))) a1_0 a1_1 a1_2 a1_3 a1_4 a1_5) = some r := H
            have A30 := Aside0.mk A300
            clear A300
            have H' := Aside0.mk H
            clear H
            try go_wp2
            have n0_ := Aside0.mk (blk_drew BK506.out)
            have n1_ := Aside0.mk (blk_drew BK511.out)
            have n2_ := Aside0.mk (below_drew1 HB.out)
            clear BK506
            clear BK511
            clear HB
            have BK506 := n0_
            have BK511 := n1_
            have HB := n2_
            clear n0_ n1_ n2_
            refine start_ (n := 13) (S := fun w' => w'.cell? ⟨gb506, 0, none⟩ = some (.string a1_0) ∧ w'.cell? ⟨gb506, 1, none⟩ = some (.int .u8 a1_1) ∧ w'.cell? ⟨gb506, 2, none⟩ = some (.int .u8 a1_2) ∧ w'.cell? ⟨gb506, 3, none⟩ = some (.int .u8 a1_3) ∧ w'.cell? ⟨gb506, 4, none⟩ = some (.string a1_4) ∧ w'.cell? ⟨gb506, 5, none⟩ = some (.int .i64 a1_5) ∧ w'.cell? ⟨gb511, 0, none⟩ = some (.int .i64 t509) ∧ w'.cell? ⟨gb511, 1, none⟩ = some (.int .i64 t510)) (ds := []) #[false, false, false, false, false, false, false, false, false, false, false, false, false] (by kernel_rfl) rfl rfl ⟨(blk_cell BK506.out 0).trans rfl, (blk_cell BK506.out 1).trans rfl, (blk_cell BK506.out 2).trans rfl, (blk_cell BK506.out 3).trans rfl, (blk_cell BK506.out 4).trans rfl, (blk_cell BK506.out 5).trans rfl, (blk_cell BK511.out 0).trans rfl, (blk_cell BK511.out 1).trans rfl⟩ (fun hHeld => ?_); refine with_tabW diacriticlaw13_FramePrints.tab5 diacriticlaw13_FramePrints.bits5 (fun HT_ HW_ => ?_)
            generalize w25.drew = w31 at BK506 BK511 HB hHeld ⊢
            refine pure_ (i := 1) (N := some 41) (v := ?_) (a' := ?_) #[false, true, false, false, false, false, false, false, false, false, false, false, false] rfl rfl (any_of HT_.out (by kernel_rfl)) (fun _ _ _ h => h) (Or.inl ⟨by rfl, ?_⟩) ?_ ?_
            rotate_left
            · intro w'
              go_simp
              with_reducible rfl
            rotate_left
            · simp only [Act.put, List.setIfInBounds_toArray, List.set_cons_zero, List.set_cons_succ, i64_w, i32_w]
              rfl
            refine pure_ (i := 3) (N := some 43) (v := ?_) (a' := ?_) #[false, true, false, true, false, false, false, false, false, false, false, false, false] rfl rfl (any_of HT_.out (by kernel_rfl)) (fun _ _ _ h => h) (Or.inl ⟨by rfl, ?_⟩) ?_ ?_
            rotate_left
            · intro w'
              go_simp
              with_reducible rfl
            rotate_left
            · simp only [Act.put, List.setIfInBounds_toArray, List.set_cons_zero, List.set_cons_succ, i64_w, i32_w]
              rfl
            refine pure_ (i := 4) (N := some 44) (v := ?_) (a' := ?_) #[false, true, false, true, true, false, false, false, false, false, false, false, false] rfl rfl (any_of HT_.out (by kernel_rfl)) (fun _ _ _ h => h) (Or.inl ⟨by rfl, ?_⟩) ?_ ?_
            rotate_left
            · intro w'
              go_simp
              with_reducible rfl
            rotate_left
            · simp only [Act.put, List.setIfInBounds_toArray, List.set_cons_zero, List.set_cons_succ, i64_w, i32_w]
              rfl
            refine take_ (i := 0) (N := some 40) (v := ?_) (a' := ?_) #[true, true, false, true, true, false, false, false, false, false, false, false, false] rfl rfl (take_ofW HT_.out HW_.out (by kernel_rfl)) (fun _ _ _ h => h) (Or.inl ⟨by rfl, ?_⟩) hHeld ?_ ?_
            rotate_left
            · rintro w' ⟨s0, s1, s2, s3, s4, s5, s6, s7⟩
              go_simp
              with_reducible rfl
            rotate_left
            · simp only [Act.put, List.setIfInBounds_toArray, List.set_cons_zero, List.set_cons_succ, i64_w, i32_w]
              rfl
            refine one_ (i := 2) (N := some 42) #[true, true, true, true, true, false, false, false, false, false, false, false, false] rfl rfl (one_of HT_.out (by kernel_rfl)) (by decide) (fun K hK => ?_)
            refine goes_ Tryd.func34 (by kernel_rfl) rfl #[.agg #[.string a1_0, .int .u8 a1_1, .int .u8 a1_2, .int .u8 a1_3, .string a1_4, .int .i64 a1_5], .int .i64 a0] (by rfl) rfl rfl q_7 ?_
            with_reducible refine (frame_Frame_Check.calls kj3 a1_0 a1_1 a1_2 a1_3 a1_4 a1_5 a0 t519 t520 _ A26.out).mono ?_
            rintro e w32 ⟨rfl, hb⟩
            refine ⟨_, rfl, ?_⟩
            have n0_ := Aside0.mk (blk_below (g := gb506) (o := .cells #[.string a1_0, .int .u8 a1_1, .int .u8 a1_2, .int .u8 a1_3, .string a1_4, .int .i64 a1_5] 36 (0, 0)) q_95 hb)
            have n1_ := Aside0.mk (blk_below (g := gb511) (o := .cells #[.int .i64 t509, .int .i64 t510] 39 (0, 0)) q_97 hb)
            have n2_ := Aside0.mk (below_step q_96 hb)
            clear BK506
            clear BK511
            clear HB
            have BK506 := n0_
            have BK511 := n1_
            have HB := n2_
            clear n0_ n1_ n2_
            (try clear hb)
            (try clear hb2)
            (try clear hk)
            (try clear hi)
            refine hK.out _ _ ⟨(blk_cell BK506.out 0).trans rfl, (blk_cell BK506.out 1).trans rfl, (blk_cell BK506.out 2).trans rfl, (blk_cell BK506.out 3).trans rfl, (blk_cell BK506.out 4).trans rfl, (blk_cell BK506.out 5).trans rfl, (blk_cell BK511.out 0).trans rfl, (blk_cell BK511.out 1).trans rfl⟩ (fun hHeld => ?_)
            clear hK K
            refine norm_ (a' := ?_) ?_ ?_
            rotate_left
            · show Act.put _ (some 42) _ = _
              simp only [Act.put, List.setIfInBounds_toArray, List.set_cons_zero, List.set_cons_succ, i64_w, i32_w]
              rfl
            refine pure_ (i := 5) (N := some 45) (v := ?_) (a' := ?_) #[true, true, true, true, true, true, false, false, false, false, false, false, false] rfl rfl (any_of HT_.out (by kernel_rfl)) (fun _ _ _ h => h) (Or.inl ⟨by rfl, ?_⟩) ?_ ?_
            rotate_left
            · intro w'
              go_simp
              with_reducible rfl
            rotate_left
            · simp only [Act.put, List.setIfInBounds_toArray, List.set_cons_zero, List.set_cons_succ, i64_w, i32_w]
              rfl
            refine pure_ (i := 6) (N := some 46) (v := ?_) (a' := ?_) #[true, true, true, true, true, true, true, false, false, false, false, false, false] rfl rfl (any_of HT_.out (by kernel_rfl)) (fun _ _ _ h => h) (Or.inl ⟨by rfl, ?_⟩) ?_ ?_
            rotate_left
            · intro w'
              go_simp
              with_reducible rfl
            rotate_left
            · simp only [Act.put, List.setIfInBounds_toArray, List.set_cons_zero, List.set_cons_succ, i64_w, i32_w]
              rfl
            refine pure_ (i := 9) (N := some 49) (v := ?_) (a' := ?_) #[true, true, true, true, true, true, true, false, false, true, false, false, false] rfl rfl (any_of HT_.out (by kernel_rfl)) (fun _ _ _ h => h) (Or.inl ⟨by rfl, ?_⟩) ?_ ?_
            rotate_left
            · intro w'
              go_simp
              with_reducible rfl
            rotate_left
            · simp only [Act.put, List.setIfInBounds_toArray, List.set_cons_zero, List.set_cons_succ, i64_w, i32_w]
              rfl
            refine take_ (i := 7) (N := some 47) (v := ?_) (a' := ?_) #[true, true, true, true, true, true, true, true, false, true, false, false, false] rfl rfl (take_ofW HT_.out HW_.out (by kernel_rfl)) (fun _ _ _ h => h) (Or.inl ⟨by rfl, ?_⟩) hHeld ?_ ?_
            rotate_left
            · rintro w' ⟨s0, s1, s2, s3, s4, s5, s6, s7⟩
              go_simp
              with_reducible rfl
            rotate_left
            · simp only [Act.put, List.setIfInBounds_toArray, List.set_cons_zero, List.set_cons_succ, i64_w, i32_w]
              rfl
            refine take_ (i := 8) (N := some 48) (v := ?_) (a' := ?_) #[true, true, true, true, true, true, true, true, true, true, false, false, false] rfl rfl (take_ofW HT_.out HW_.out (by kernel_rfl)) (fun _ _ _ h => h) (Or.inl ⟨by rfl, ?_⟩) hHeld ?_ ?_
            rotate_left
            · rintro w' ⟨s0, s1, s2, s3, s4, s5, s6, s7⟩
              go_simp
              with_reducible rfl
            rotate_left
            · simp only [Act.put, List.setIfInBounds_toArray, List.set_cons_zero, List.set_cons_succ, i64_w, i32_w]
              rfl
            refine one_ (i := 10) (N := some 50) #[true, true, true, true, true, true, true, true, true, true, true, false, false] rfl rfl (one_of HT_.out (by kernel_rfl)) (by decide) (fun K hK => ?_)
            refine goes_ Tryd.func34 (by kernel_rfl) rfl #[.agg #[.string a1_0, .int .u8 a1_1, .int .u8 a1_2, .int .u8 a1_3, .string a1_4, .int .i64 a1_5], .int .i64 a0] (by rfl) rfl rfl q_7 ?_
            with_reducible refine (frame_Frame_Check.calls kj3 a1_0 a1_1 a1_2 a1_3 a1_4 a1_5 a0 t521 t522 _ A30.out).mono ?_
            rintro e w33 ⟨rfl, hb⟩
            refine ⟨_, rfl, ?_⟩
            have n0_ := Aside0.mk (blk_below (g := gb506) (o := .cells #[.string a1_0, .int .u8 a1_1, .int .u8 a1_2, .int .u8 a1_3, .string a1_4, .int .i64 a1_5] 36 (0, 0)) q_95 hb)
            have n1_ := Aside0.mk (blk_below (g := gb511) (o := .cells #[.int .i64 t509, .int .i64 t510] 39 (0, 0)) q_97 hb)
            have n2_ := Aside0.mk (below_step q_96 hb)
            clear BK506
            clear BK511
            clear HB
            have BK506 := n0_
            have BK511 := n1_
            have HB := n2_
            clear n0_ n1_ n2_
            (try clear hb)
            (try clear hb2)
            (try clear hk)
            (try clear hi)
            refine hK.out _ _ ⟨(blk_cell BK506.out 0).trans rfl, (blk_cell BK506.out 1).trans rfl, (blk_cell BK506.out 2).trans rfl, (blk_cell BK506.out 3).trans rfl, (blk_cell BK506.out 4).trans rfl, (blk_cell BK506.out 5).trans rfl, (blk_cell BK511.out 0).trans rfl, (blk_cell BK511.out 1).trans rfl⟩ (fun hHeld => ?_)
            clear hK K
            refine norm_ (a' := ?_) ?_ ?_
            rotate_left
            · show Act.put _ (some 50) _ = _
              simp only [Act.put, List.setIfInBounds_toArray, List.set_cons_zero, List.set_cons_succ, i64_w, i32_w]
              rfl
            refine pure_ (i := 11) (N := some 51) (v := ?_) (a' := ?_) #[true, true, true, true, true, true, true, true, true, true, true, true, false] rfl rfl (any_of HT_.out (by kernel_rfl)) (fun _ _ _ h => h) (Or.inl ⟨by rfl, ?_⟩) ?_ ?_
            rotate_left
            · intro w'
              go_simp
              with_reducible rfl
            rotate_left
            · simp only [Act.put, List.setIfInBounds_toArray, List.set_cons_zero, List.set_cons_succ, i64_w, i32_w]
              rfl
            refine pure_ (i := 12) (N := some 52) (v := ?_) (a' := ?_) #[true, true, true, true, true, true, true, true, true, true, true, true, true] rfl rfl (any_of HT_.out (by kernel_rfl)) (fun _ _ _ h => h) (Or.inl ⟨by rfl, ?_⟩) ?_ ?_
            rotate_left
            · intro w'
              go_simp
              with_reducible rfl
            rotate_left
            · simp only [Act.put, List.setIfInBounds_toArray, List.set_cons_zero, List.set_cons_succ, i64_w, i32_w]
              rfl
            refine done_ (done_of HT_.out (by kernel_rfl)) ?_
            try go_wp2
            go_meet
            case rel => exact ⟨_, ((!(t509 == t521) || (!(t510 == t522)))), q_1, H', ⟨q_29⟩, ⟨q_95⟩, ⟨q_97⟩, ⟨q_96⟩⟩
        case rest =>
          clear HC17
          try clear c1; try clear c2; try clear p2; try clear c3; try clear c6; try clear c6b0; try clear c6b1; try clear c7; try clear c8; try clear c8b0; try clear c8b1; try clear c11; try clear c18; try clear c21; try clear c27; try clear c27b0; try clear c31; try clear c32; try clear c33; try clear hcz10_0; try clear hcz10_1; try clear hcz10_2; try clear hcz10_3; try clear hcz10_4; try clear hcz10_5; try clear hcz18_0; try clear hcz18_1; try clear hcz18_2; try clear hcz18_3; try clear hcz18_4; try clear hcz18_5; try clear hcz22_0; try clear hcz22_1; try clear hcz23_0; try clear hcz23_1; try clear hcz23_2; try clear hcz23_3; try clear hcz23_4; try clear hcz23_5; try clear hcz7_0; try clear hcz7_1; try clear hcz7_2; try clear hcz7_3; try clear hcz7_4; try clear hcz7_5; try clear hcz9_0; try clear hcz9_1; try clear hcz9_2; try clear hcz9_3; try clear hcz9_4; try clear hcz9_5; try clear hfz10_0; try clear hfz10_1; try clear hfz10_2; try clear hfz10_3; try clear hfz10_4; try clear hfz10_5; try clear hfz18_0; try clear hfz18_1; try clear hfz18_2; try clear hfz18_3; try clear hfz18_4; try clear hfz18_5; try clear hfz22_0; try clear hfz22_1; try clear hfz23_0; try clear hfz23_1; try clear hfz23_2; try clear hfz23_3; try clear hfz23_4; try clear hfz23_5; try clear hfz7_0; try clear hfz7_1; try clear hfz7_2; try clear hfz7_3; try clear hfz7_4; try clear hfz7_5; try clear hfz9_0; try clear hfz9_1; try clear hfz9_2; try clear hfz9_3; try clear hfz9_4; try clear hfz9_5; try clear p2
          obtain ⟨kq, x52_16, rfl, HA, HJ16, BK506, BK511, HB⟩ := hcut
          cases kq with
          | zero => exact absurd HA.out (by simp [diacriticlaw13_FramePrints.j1])
          | succ kj16 =>
            have H := HA.out
            clear HA
            simp only [diacriticlaw13_FramePrints.j1] at H
            by_cases c34 : x52_16 = true
            · subst c34
              have H1 : (some false) = some r := by rw [if_pos rfl] at H; exact H
              clear H
              have H := H1
              clear H1
              obtain rfl := Option.some.inj H
              go_wp2
              go_ret
              exact ⟨q_11, q_96⟩
            · replace c34 := Bool.eq_false_iff.mpr c34
              subst c34
              have H1 : (if t518 = 0 then (if t508.size + a2.size ≤ 9223372036854775807 then ((octet_Read.f (t508 ++ a2)).bind fun bt524 => ((frame_Parse.f kj16 a0 bt524.1 bt524.2.1 bt524.2.2.1 bt524.2.2.2.1 bt524.2.2.2.2 false).bind fun bt530 => ((diacriticlaw13_awake.f kj16).bind fun t543 => (if t543 = true then ((diacriticlaw13_Of.f a1_0 a1_1 a1_2 a1_3 a1_4 0).bind fun bt544 => ((diacriticref13_Print.f kj16 a0 bt544.1 bt544.2.1 bt544.2.2.1 bt544.2.2.2.1 bt544.2.2.2.2.1 bt544.2.2.2.2.2).bind fun t550 => (if t508.toList = t550.toList then (if bt530.2.2.2.2.2.2.1 = true then (if ((bt530.1.toList == a1_0.toList && (bt530.2.1 == a1_1 && (bt530.2.2.1 == a1_2))) && (bt530.2.2.2.1 == a1_3 && (bt530.2.2.2.2.1.toList == a1_4.toList && (bt530.2.2.2.2.2.1 == 0)))) = true then ((octet_In_Rest.f bt530.2.2.2.2.2.2.2.1 bt530.2.2.2.2.2.2.2.2.1 bt530.2.2.2.2.2.2.2.2.2.1 bt530.2.2.2.2.2.2.2.2.2.2.1 bt530.2.2.2.2.2.2.2.2.2.2.2).bind fun bt551 => (some (bt551.1.toList == a2.toList))) else (some false)) else (some false)) else (some false)))) else (some false))))) else (none)) else ((diacriticlaw13_awake.f kj16).bind fun t523 => (if t523 = true then (some (t508.toList == ([] : List UInt8))) else (some false)))) = some r := by rw [if_neg (show ¬ (false = true) by decide)] at H; exact H
              clear H
              have H := H1
              clear H1
              by_cases c35 : t518 = 0
              · rw [if_pos c35] at H
                have c35b0 : (t518 == 0) = true := beq_iff_eq.mpr c35
                have c35b1 : (t518 != 0) = false := bne_eq_false_iff_eq.mpr c35
                clear c35
                by_cases c36 : t508.size + a2.size ≤ 9223372036854775807
                · rw [if_pos c36] at H
                  have c36b0 := eq_true c36
                  have c36b1 : decide (t508.size + a2.size ≤ 9223372036854775807) = true := decide_eq_true c36
                  try have c36b2 : (9223372036854775807 < t508.size + a2.size) = False := eq_false (Nat.not_lt.2 c36)
                  replace H := Option.bind_eq_some_iff.mp H
                  obtain ⟨⟨t524, t525, t526, t527, t528⟩, A370, H⟩ := H
                  replace H : ((frame_Parse.f kj16 a0 t524 t525 t526 t527 t528 false).bind fun bt530 => ((diacriticlaw13_awake.f kj16).bind fun t543 => (if t543 = true then ((diacriticlaw13_Of.f a1_0 a1_1 a1_2 a1_3 a1_4 0).bind fun bt544 => ((diacriticref13_Print.f kj16 a0 bt544.1 bt544.2.1 bt544.2.2.1 bt544.2.2.2.1 bt544.2.2.2.2.1 bt544.2.2.2.2.2).bind fun t550 => (if t508.toList = t550.toList then (if bt530.2.2.2.2.2.2.1 = true then (if ((bt530.1.toList == a1_0.toList && (bt530.2.1 == a1_1 && (bt530.2.2.1 == a1_2))) && (bt530.2.2.2.1 == a1_3 && (bt530.2.2.2.2.1.toList == a1_4.toList && (bt530.2.2.2.2.2.1 == 0)))) = true then ((octet_In_Rest.f bt530.2.2.2.2.2.2.2.1 bt530.2.2.2.2.2.2.2.2.1 bt530.2.2.2.2.2.2.2.2.2.1 bt530.2.2.2.2.2.2.2.2.2.2.1 bt530.2.2.2.2.2.2.2.2.2.2.2).bind fun bt551 => (some (bt551.1.toList == a2.toList))) else (some false)) else (some false)) else (some false)))) else (some false)))) = some r := H
                  have A37 := Aside0.mk A370
                  clear A370
                  replace H := Option.bind_eq_some_iff.mp H
                  obtain ⟨⟨t530, t531, t532, t533, t534, t535, t536, t537, t538, t539, t540, t541⟩, A380, H⟩ := H
                  replace H : ((diacriticlaw13_awake.f kj16).bind fun t543 => (if t543 = true then ((diacriticlaw13_Of.f a1_0 a1_1 a1_2 a1_3 a1_4 0).bind fun bt544 => ((diacriticref13_Print.f kj16 a0 bt544.1 bt544.2.1 bt544.2.2.1 bt544.2.2.2.1 bt544.2.2.2.2.1 bt544.2.2.2.2.2).bind fun t550 => (if t508.toList = t550.toList then (if t536 = true then (if ((t530.toList == a1_0.toList && (t531 == a1_1 && (t532 == a1_2))) && (t533 == a1_3 && (t534.toList == a1_4.toList && (t535 == 0)))) = true then ((octet_In_Rest.f t537 t538 t539 t540 t541).bind fun bt551 => (some (bt551.1.toList == a2.toList))) else (some false)) else (some false)) else (some false)))) else (some false))) = some r := H
                  have A38 := Aside0.mk A380
                  clear A380
                  replace H := Option.bind_eq_some_iff.mp H
                  obtain ⟨t543, A390, H⟩ := H
                  replace H : (if t543 = true then ((diacriticlaw13_Of.f a1_0 a1_1 a1_2 a1_3 a1_4 0).bind fun bt544 => ((diacriticref13_Print.f kj16 a0 bt544.1 bt544.2.1 bt544.2.2.1 bt544.2.2.2.1 bt544.2.2.2.2.1 bt544.2.2.2.2.2).bind fun t550 => (if t508.toList = t550.toList then (if t536 = true then (if ((t530.toList == a1_0.toList && (t531 == a1_1 && (t532 == a1_2))) && (t533 == a1_3 && (t534.toList == a1_4.toList && (t535 == 0)))) = true then ((octet_In_Rest.f t537 t538 t539 t540 t541).bind fun bt551 => (some (bt551.1.toList == a2.toList))) else (some false)) else (some false)) else (some false)))) else (some false)) = some r := H
                  have A39 := Aside0.mk A390
                  clear A390
                  by_cases c40 : t543 = true
                  · subst c40
                    have H1 : ((diacriticlaw13_Of.f a1_0 a1_1 a1_2 a1_3 a1_4 0).bind fun bt544 => ((diacriticref13_Print.f kj16 a0 bt544.1 bt544.2.1 bt544.2.2.1 bt544.2.2.2.1 bt544.2.2.2.2.1 bt544.2.2.2.2.2).bind fun t550 => (if t508.toList = t550.toList then (if t536 = true then (if ((t530.toList == a1_0.toList && (t531 == a1_1 && (t532 == a1_2))) && (t533 == a1_3 && (t534.toList == a1_4.toList && (t535 == 0)))) = true then ((octet_In_Rest.f t537 t538 t539 t540 t541).bind fun bt551 => (some (bt551.1.toList == a2.toList))) else (some false)) else (some false)) else (some false)))) = some r := by rw [if_pos rfl] at H; exact H
                    clear H
                    have H := H1
                    clear H1
                    replace H := Option.bind_eq_some_iff.mp H
                    obtain ⟨⟨t544, t545, t546, t547, t548, t549⟩, A410, H⟩ := H
                    replace H : ((diacriticref13_Print.f kj16 a0 t544 t545 t546 t547 t548 t549).bind fun t550 => (if t508.toList = t550.toList then (if t536 = true then (if ((t530.toList == a1_0.toList && (t531 == a1_1 && (t532 == a1_2))) && (t533 == a1_3 && (t534.toList == a1_4.toList && (t535 == 0)))) = true then ((octet_In_Rest.f t537 t538 t539 t540 t541).bind fun bt551 => (some (bt551.1.toList == a2.toList))) else (some false)) else (some false)) else (some false))) = some r := H
                    have A41 := Aside0.mk A410
                    clear A410
                    replace H := Option.bind_eq_some_iff.mp H
                    obtain ⟨t550, A420, H⟩ := H
                    replace H : (if t508.toList = t550.toList then (if t536 = true then (if ((t530.toList == a1_0.toList && (t531 == a1_1 && (t532 == a1_2))) && (t533 == a1_3 && (t534.toList == a1_4.toList && (t535 == 0)))) = true then ((octet_In_Rest.f t537 t538 t539 t540 t541).bind fun bt551 => (some (bt551.1.toList == a2.toList))) else (some false)) else (some false)) else (some false)) = some r := H
                    have A42 := Aside0.mk A420
                    clear A420
                    by_cases c43 : t508.toList = t550.toList
                    · rw [if_pos c43] at H
                      have c43b0 : (t508.toList == t550.toList) = true := beq_iff_eq.mpr c43
                      have c43b1 : (t508.toList != t550.toList) = false := bne_eq_false_iff_eq.mpr c43
                      clear c43
                      by_cases c44 : t536 = true
                      · subst c44
                        have H1 : (if ((t530.toList == a1_0.toList && (t531 == a1_1 && (t532 == a1_2))) && (t533 == a1_3 && (t534.toList == a1_4.toList && (t535 == 0)))) = true then ((octet_In_Rest.f t537 t538 t539 t540 t541).bind fun bt551 => (some (bt551.1.toList == a2.toList))) else (some false)) = some r := by rw [if_pos rfl] at H; exact H
                        clear H
                        have H := H1
                        clear H1
                        by_cases c45 : ((t530.toList == a1_0.toList && (t531 == a1_1 && (t532 == a1_2))) && (t533 == a1_3 && (t534.toList == a1_4.toList && (t535 == 0)))) = true
                        · rw [if_pos c45] at H
                          have c45b0 : ((t530.toList == a1_0.toList && (t531 == a1_1 && (t532 == a1_2))) && (t533 == a1_3 && (t534.toList == a1_4.toList && (t535 == 0)))) = true := c45
                          clear c45
                          replace H := Option.bind_eq_some_iff.mp H
                          obtain ⟨⟨t551, t552, t553, t554, t555, t556⟩, A460, H⟩ := H
                          replace H : (some (t551.toList == a2.toList)) = some r := H
                          have A46 := Aside0.mk A460
                          clear A460
                          obtain rfl := Option.some.inj H
                          go_wp2_with (first | ((with_reducible refine gate_callee (f := 35) rfl ?_); refine goesL_ (some 63) rfl rfl Tryd.func35 (by kernel_rfl) rfl #[.string (t508 ++ a2)] rfl q_7 ?_; (with_reducible refine (octet_Read.calls (t508 ++ a2) t524 t525 t526 t527 t528 w _ ?side1 A37.out).mono ?_); (case side1 => repeat (first | (with_reducible first | exact HB.out | apply below_alloc | apply pw_below_drewN | apply below_drew1 | refine below_set ?_ GE506.out | refine below_set ?_ GE511.out) | exact HB.out)); rintro e w47 ⟨g529, rfl, hi, hb, hb2⟩; refine ⟨_, rfl, ?_⟩; have n0_ := Aside0.mk (blk_below (g := gb506) (o := .cells #[.string a1_0, .int .u8 a1_1, .int .u8 a1_2, .int .u8 a1_3, .string a1_4, .int .i64 a1_5] 36 (0, 0)) q_95 hb2); have n1_ := Aside0.mk (blk_below (g := gb511) (o := .cells #[.int .i64 t509, .int .i64 t510] 39 (0, 0)) q_97 hb2); have n2_ := Aside0.mk (hb); have n3_ := Aside0.mk (hi); have n4_ := Aside0.mk (IsS70.ne_blk hi (blk_below (g := gb506) (o := .cells #[.string a1_0, .int .u8 a1_1, .int .u8 a1_2, .int .u8 a1_3, .string a1_4, .int .i64 a1_5] 36 (0, 0)) q_95 hb2) (by decide)); have n5_ := Aside0.mk (Ne.symm (IsS70.ne_blk hi (blk_below (g := gb506) (o := .cells #[.string a1_0, .int .u8 a1_1, .int .u8 a1_2, .int .u8 a1_3, .string a1_4, .int .i64 a1_5] 36 (0, 0)) q_95 hb2) (by decide))); have n6_ := Aside0.mk (IsS70.ne_blk hi (blk_below (g := gb511) (o := .cells #[.int .i64 t509, .int .i64 t510] 39 (0, 0)) q_97 hb2) (by decide)); have n7_ := Aside0.mk (Ne.symm (IsS70.ne_blk hi (blk_below (g := gb511) (o := .cells #[.int .i64 t509, .int .i64 t510] 39 (0, 0)) q_97 hb2) (by decide))); clear BK506; clear BK511; clear HB; have BK506 := n0_; have BK511 := n1_; have HB := n2_; have HI529 := n3_; have NB529_506 := n4_; have NB506_529 := n5_; have NB529_511 := n6_; have NB511_529 := n7_; clear n0_ n1_ n2_ n3_ n4_ n5_ n6_ n7_; (try clear hb); (try clear hb2); (try clear hk); (try clear hi)) | ((with_reducible refine gate_callee (f := 36) rfl ?_); refine goesL_ (some 67) rfl rfl Tryd.func36 (by kernel_rfl) rfl #[.int .i64 a0, .pointer (some ⟨g529, 0, none⟩), .bool false] rfl q_7 ?_; (with_reducible refine (frame_Parse.calls kj16 a0 g529 t524 t525 t526 t527 t528 false t530 t531 t532 t533 t534 t535 true t537 t538 t539 t540 t541 w _ ?side1 ?side2 HG.out A38.out).mono ?_); (case side1 => repeat (first | (with_reducible first | exact HI529.out | apply IsS70.alloc | apply IsS70.drewN | apply IsS70.drew | apply IsS70.set_0 | apply IsS70.set_1 | apply IsS70.set_2 | apply IsS70.set_3 | apply IsS70.set_4 | refine IsS70.far ?_ NB529_506.out _ | apply IsS70.far (hne := NB529_506.out) | refine IsS70.far ?_ NB529_511.out _ | apply IsS70.far (hne := NB529_511.out)) | exact HI529.out)); (case side2 => repeat (first | (with_reducible first | exact HB.out | apply below_alloc | apply pw_below_drewN | apply below_drew1 | refine below_set ?_ (IsS70.ge HI529.out) | refine below_set ?_ GE506.out | refine below_set ?_ GE511.out) | exact HB.out)); rintro e w48 ⟨rfl, hi, hb, hk⟩; refine ⟨_, rfl, ?_⟩; have n0_ := Aside0.mk (KeepBut.blk hk (g' := gb506) (o := .cells #[.string a1_0, .int .u8 a1_1, .int .u8 a1_2, .int .u8 a1_3, .string a1_4, .int .i64 a1_5] 36 (0, 0)) q_95 NB506_529.out (by simp)); have n1_ := Aside0.mk (KeepBut.blk hk (g' := gb511) (o := .cells #[.int .i64 t509, .int .i64 t510] 39 (0, 0)) q_97 NB511_529.out (by simp)); have n2_ := Aside0.mk (hb); have n3_ := Aside0.mk (hi); clear BK506; clear BK511; clear HB; clear HI529; have BK506 := n0_; have BK511 := n1_; have HB := n2_; have HI529 := n3_; clear n0_ n1_ n2_ n3_; (try clear hb); (try clear hb2); (try clear hk); (try clear hi)) | ((with_reducible refine gate_dst (N := 11) rfl ?_); (try (refine gate_guard (by rfl) ?_; dsimp only)); refine box_event ?hg (N := 11) ?hd (cs := #[.string (⟨#[]⟩ : ByteArray), .int .u8 0, .int .u8 0, .int .u8 0, .string (⟨#[]⟩ : ByteArray), .int .i64 0]) (t := 36) ?hr ?_; (case hd => rfl); (case hg => rfl); (case hr => first | (go_simp; done) | (go_simp; rfl)); intro gb542 hg w49 hbox hb; have n0_ := Aside0.mk (blk_below (g := gb506) (o := .cells #[.string a1_0, .int .u8 a1_1, .int .u8 a1_2, .int .u8 a1_3, .string a1_4, .int .i64 a1_5] 36 (0, 0)) q_95 hb); have n1_ := Aside0.mk (blk_below (g := gb511) (o := .cells #[.int .i64 t509, .int .i64 t510] 39 (0, 0)) q_97 hb); have n2_ := Aside0.mk (IsS70.below q_98 hb); have n3_ := Aside0.mk (below_step q_99 hb); have n4_ := Aside0.mk (hbox); have n5_ := Aside0.mk ((by rw [hg]; exact (below_size q_99) : w.heap.size ≤ gb542)); have n6_ := Aside0.mk ((by rw [hg]; exact (below_size q_99) : w.heap.size ≤ gb542)); have n7_ := Aside0.mk ((q_149 : gb506 ≠ gb542)); have n8_ := Aside0.mk ((q_150 : gb542 ≠ gb506)); have n9_ := Aside0.mk ((q_151 : gb511 ≠ gb542)); have n10_ := Aside0.mk ((q_152 : gb542 ≠ gb511)); have n11_ := Aside0.mk ((q_100 : g529 ≠ gb542)); have n12_ := Aside0.mk ((q_101 : gb542 ≠ g529)); clear BK506; clear BK511; clear HI529; clear HB; have BK506 := n0_; have BK511 := n1_; have HI529 := n2_; have HB := n3_; have BK542 := n4_; have GW542 := n5_; have GE542 := n6_; have NB506_542 := n7_; have NB542_506 := n8_; have NB511_542 := n9_; have NB542_511 := n10_; have NB529_542 := n11_; have NB542_529 := n12_; clear n0_ n1_ n2_ n3_ n4_ n5_ n6_ n7_ n8_ n9_ n10_ n11_ n12_; clear hb hbox hg; have hnb50 := NB542_506.out; have hnc50 := NB506_542.out; have hnb51 := NB542_511.out; have hnc51 := NB511_542.out; have hnb52 := NB542_529.out; have hnc52 := NB529_542.out; obtain ⟨hcz53_0, hcz53_1, hcz53_2, hcz53_3, hcz53_4, hcz53_5, hfz53_0, hfz53_1, hfz53_2, hfz53_3, hfz53_4, hfz53_5⟩ := cells6_ BK542.out; have hnb54 := NB506_511.out; have hnc54 := NB511_506.out; have hnb55 := NB506_529.out; have hnc55 := NB529_506.out; obtain ⟨hcz56_0, hcz56_1, hcz56_2, hcz56_3, hcz56_4, hcz56_5, hfz56_0, hfz56_1, hfz56_2, hfz56_3, hfz56_4, hfz56_5⟩ := cells6_ BK506.out) | ((with_reducible refine gate_callee (f := 18) rfl ?_); refine goesL_ (some 71) rfl rfl Tryd.func18 (by kernel_rfl) rfl #[] rfl q_7 ?_; (with_reducible refine (diacriticlaw13_awake.calls kj16  true _ (GM.below HG.out q_102) A39.out).mono ?_); rintro e w57 ⟨rfl, hb⟩; refine ⟨_, rfl, ?_⟩; have n0_ := Aside0.mk (blk_below (g := gb506) (o := .cells #[.string a1_0, .int .u8 a1_1, .int .u8 a1_2, .int .u8 a1_3, .string a1_4, .int .i64 0] 36 (0, 0)) q_103 hb); have n1_ := Aside0.mk (blk_below (g := gb511) (o := .cells #[.int .i64 t509, .int .i64 t510] 39 (0, 0)) q_104 hb); have n2_ := Aside0.mk (IsS70.below (show IsS70 w (((((((w49.setCell ⟨gb542, 0, none⟩ (.string t530)).setCell ⟨gb542, 1, none⟩ (.int .u8 t531)).setCell ⟨gb542, 2, none⟩ (.int .u8 t532)).setCell ⟨gb542, 3, none⟩ (.int .u8 t533)).setCell ⟨gb542, 4, none⟩ (.string t534)).setCell ⟨gb542, 5, none⟩ (.int .i64 t535)).setCell ⟨gb506, 5, none⟩ (.int .i64 0)) g529 t537 t538 t539 t540 t541 from by repeat (first | (with_reducible first | exact HI529.out | apply IsS70.alloc | apply IsS70.drewN | apply IsS70.drew | apply IsS70.set_0 | apply IsS70.set_1 | apply IsS70.set_2 | apply IsS70.set_3 | apply IsS70.set_4 | refine IsS70.far ?_ NB529_506.out _ | apply IsS70.far (hne := NB529_506.out) | refine IsS70.far ?_ NB529_511.out _ | apply IsS70.far (hne := NB529_511.out) | refine IsS70.far ?_ NB529_542.out _ | apply IsS70.far (hne := NB529_542.out)) | exact HI529.out)) hb); have n3_ := Aside0.mk (blk_below (g := gb542) (o := .cells #[.string t530, .int .u8 t531, .int .u8 t532, .int .u8 t533, .string t534, .int .i64 t535] 36 (0, 0)) q_105 hb); have n4_ := Aside0.mk (below_step q_102 hb); clear BK506; clear BK511; clear HI529; clear BK542; clear HB; have BK506 := n0_; have BK511 := n1_; have HI529 := n2_; have BK542 := n3_; have HB := n4_; clear n0_ n1_ n2_ n3_ n4_; (try clear hb); (try clear hb2); (try clear hk); (try clear hi); obtain ⟨hcz58_0, hcz58_1, hcz58_2, hcz58_3, hcz58_4, hcz58_5, hfz58_0, hfz58_1, hfz58_2, hfz58_3, hfz58_4, hfz58_5⟩ := cells6_ BK506.out) | (go_at_call 33; (with_reducible refine (diacriticlaw13_Of.calls a1_0 a1_1 a1_2 a1_3 a1_4 0 t544 t545 t546 t547 t548 t549 _ A41.out).mono ?_); rintro e w59 ⟨rfl, hb⟩; have n0_ := Aside0.mk (blk_below (g := gb506) (o := .cells #[.string a1_0, .int .u8 a1_1, .int .u8 a1_2, .int .u8 a1_3, .string a1_4, .int .i64 0] 36 (0, 0)) q_95 hb); have n1_ := Aside0.mk (blk_below (g := gb511) (o := .cells #[.int .i64 t509, .int .i64 t510] 39 (0, 0)) q_97 hb); have n2_ := Aside0.mk (IsS70.below q_106 hb); have n3_ := Aside0.mk (blk_below (g := gb542) (o := .cells #[.string t530, .int .u8 t531, .int .u8 t532, .int .u8 t533, .string t534, .int .i64 t535] 36 (0, 0)) q_107 hb); have n4_ := Aside0.mk (below_step q_102 hb); clear BK506; clear BK511; clear HI529; clear BK542; clear HB; have BK506 := n0_; have BK511 := n1_; have HI529 := n2_; have BK542 := n3_; have HB := n4_; clear n0_ n1_ n2_ n3_ n4_; (try clear hb); (try clear hb2); (try clear hk); (try clear hi)) | (go_at_call 37; (with_reducible refine (diacriticref13_Print.calls kj16 a0 t544 t545 t546 t547 t548 t549 t550 _ A42.out).mono ?_); rintro e w60 ⟨rfl, hb⟩; have n0_ := Aside0.mk (blk_below (g := gb506) (o := .cells #[.string a1_0, .int .u8 a1_1, .int .u8 a1_2, .int .u8 a1_3, .string a1_4, .int .i64 0] 36 (0, 0)) q_95 hb); have n1_ := Aside0.mk (blk_below (g := gb511) (o := .cells #[.int .i64 t509, .int .i64 t510] 39 (0, 0)) q_97 hb); have n2_ := Aside0.mk (IsS70.below q_106 hb); have n3_ := Aside0.mk (blk_below (g := gb542) (o := .cells #[.string t530, .int .u8 t531, .int .u8 t532, .int .u8 t533, .string t534, .int .i64 t535] 36 (0, 0)) q_107 hb); have n4_ := Aside0.mk (below_step q_102 hb); clear BK506; clear BK511; clear HI529; clear BK542; clear HB; have BK506 := n0_; have BK511 := n1_; have HI529 := n2_; have BK542 := n3_; have HB := n4_; clear n0_ n1_ n2_ n3_ n4_; (try clear hb); (try clear hb2); (try clear hk); (try clear hi); obtain ⟨hcz61_0, hcz61_1, hcz61_2, hcz61_3, hcz61_4, hcz61_5, hfz61_0, hfz61_1, hfz61_2, hfz61_3, hfz61_4, hfz61_5⟩ := cells6_ BK542.out; obtain ⟨hcz62_0, hcz62_1, hcz62_2, hcz62_3, hcz62_4, hcz62_5, hfz62_0, hfz62_1, hfz62_2, hfz62_3, hfz62_4, hfz62_5⟩ := cells6_ BK506.out) | (go_at_call 38; (with_reducible refine (octet_In_Rest.calls g529 t537 t538 t539 t540 t541 t551 t552 t553 t554 t555 t556 w _ ?side1 ?side2 A46.out).mono ?_); (case side1 => repeat (first | (with_reducible first | exact HI529.out | apply IsS70.alloc | apply IsS70.drewN | apply IsS70.drew | apply IsS70.set_0 | apply IsS70.set_1 | apply IsS70.set_2 | apply IsS70.set_3 | apply IsS70.set_4 | refine IsS70.far ?_ NB529_506.out _ | apply IsS70.far (hne := NB529_506.out) | refine IsS70.far ?_ NB529_511.out _ | apply IsS70.far (hne := NB529_511.out) | refine IsS70.far ?_ NB529_542.out _ | apply IsS70.far (hne := NB529_542.out)) | exact HI529.out)); (case side2 => repeat (first | (with_reducible first | exact HB.out | apply below_alloc | apply pw_below_drewN | apply below_drew1 | refine below_set ?_ (IsS70.ge HI529.out) | refine below_set ?_ GE506.out | refine below_set ?_ GE511.out | refine below_set ?_ GE542.out) | exact HB.out)); rintro e w63 ⟨rfl, hi, hb, hk⟩; have n0_ := Aside0.mk (KeepBut.blk hk (g' := gb506) (o := .cells #[.string a1_0, .int .u8 a1_1, .int .u8 a1_2, .int .u8 a1_3, .string a1_4, .int .i64 0] 36 (0, 0)) q_95 NB506_529.out (by simp)); have n1_ := Aside0.mk (KeepBut.blk hk (g' := gb511) (o := .cells #[.int .i64 t509, .int .i64 t510] 39 (0, 0)) q_97 NB511_529.out (by simp)); have n2_ := Aside0.mk (KeepBut.blk hk (g' := gb542) (o := .cells #[.string t530, .int .u8 t531, .int .u8 t532, .int .u8 t533, .string t534, .int .i64 t535] 36 (0, 0)) q_107 NB542_529.out (by simp)); have n3_ := Aside0.mk (hb); have n4_ := Aside0.mk (hi); clear BK506; clear BK511; clear BK542; clear HB; clear HI529; have BK506 := n0_; have BK511 := n1_; have BK542 := n2_; have HB := n3_; have HI529 := n4_; clear n0_ n1_ n2_ n3_ n4_; (try clear hb); (try clear hb2); (try clear hk); (try clear hi)))
                          go_ret
                          exact ⟨q_11, q_102⟩
                        · rw [if_neg c45] at H
                          have c45b0 : ((t530.toList == a1_0.toList && (t531 == a1_1 && (t532 == a1_2))) && (t533 == a1_3 && (t534.toList == a1_4.toList && (t535 == 0)))) = false := by simpa using c45
                          clear c45
                          obtain rfl := Option.some.inj H
                          go_wp2_with (first | ((with_reducible refine gate_callee (f := 35) rfl ?_); refine goesL_ (some 63) rfl rfl Tryd.func35 (by kernel_rfl) rfl #[.string (t508 ++ a2)] rfl q_7 ?_; (with_reducible refine (octet_Read.calls (t508 ++ a2) t524 t525 t526 t527 t528 w _ ?side1 A37.out).mono ?_); (case side1 => repeat (first | (with_reducible first | exact HB.out | apply below_alloc | apply pw_below_drewN | apply below_drew1 | refine below_set ?_ GE506.out | refine below_set ?_ GE511.out) | exact HB.out)); rintro e w64 ⟨g529, rfl, hi, hb, hb2⟩; refine ⟨_, rfl, ?_⟩; have n0_ := Aside0.mk (blk_below (g := gb506) (o := .cells #[.string a1_0, .int .u8 a1_1, .int .u8 a1_2, .int .u8 a1_3, .string a1_4, .int .i64 a1_5] 36 (0, 0)) q_95 hb2); have n1_ := Aside0.mk (blk_below (g := gb511) (o := .cells #[.int .i64 t509, .int .i64 t510] 39 (0, 0)) q_97 hb2); have n2_ := Aside0.mk (hb); have n3_ := Aside0.mk (hi); have n4_ := Aside0.mk (IsS70.ne_blk hi (blk_below (g := gb506) (o := .cells #[.string a1_0, .int .u8 a1_1, .int .u8 a1_2, .int .u8 a1_3, .string a1_4, .int .i64 a1_5] 36 (0, 0)) q_95 hb2) (by decide)); have n5_ := Aside0.mk (Ne.symm (IsS70.ne_blk hi (blk_below (g := gb506) (o := .cells #[.string a1_0, .int .u8 a1_1, .int .u8 a1_2, .int .u8 a1_3, .string a1_4, .int .i64 a1_5] 36 (0, 0)) q_95 hb2) (by decide))); have n6_ := Aside0.mk (IsS70.ne_blk hi (blk_below (g := gb511) (o := .cells #[.int .i64 t509, .int .i64 t510] 39 (0, 0)) q_97 hb2) (by decide)); have n7_ := Aside0.mk (Ne.symm (IsS70.ne_blk hi (blk_below (g := gb511) (o := .cells #[.int .i64 t509, .int .i64 t510] 39 (0, 0)) q_97 hb2) (by decide))); clear BK506; clear BK511; clear HB; have BK506 := n0_; have BK511 := n1_; have HB := n2_; have HI529 := n3_; have NB529_506 := n4_; have NB506_529 := n5_; have NB529_511 := n6_; have NB511_529 := n7_; clear n0_ n1_ n2_ n3_ n4_ n5_ n6_ n7_; (try clear hb); (try clear hb2); (try clear hk); (try clear hi)) | ((with_reducible refine gate_callee (f := 36) rfl ?_); refine goesL_ (some 67) rfl rfl Tryd.func36 (by kernel_rfl) rfl #[.int .i64 a0, .pointer (some ⟨g529, 0, none⟩), .bool false] rfl q_7 ?_; (with_reducible refine (frame_Parse.calls kj16 a0 g529 t524 t525 t526 t527 t528 false t530 t531 t532 t533 t534 t535 true t537 t538 t539 t540 t541 w _ ?side1 ?side2 HG.out A38.out).mono ?_); (case side1 => repeat (first | (with_reducible first | exact HI529.out | apply IsS70.alloc | apply IsS70.drewN | apply IsS70.drew | apply IsS70.set_0 | apply IsS70.set_1 | apply IsS70.set_2 | apply IsS70.set_3 | apply IsS70.set_4 | refine IsS70.far ?_ NB529_506.out _ | apply IsS70.far (hne := NB529_506.out) | refine IsS70.far ?_ NB529_511.out _ | apply IsS70.far (hne := NB529_511.out)) | exact HI529.out)); (case side2 => repeat (first | (with_reducible first | exact HB.out | apply below_alloc | apply pw_below_drewN | apply below_drew1 | refine below_set ?_ (IsS70.ge HI529.out) | refine below_set ?_ GE506.out | refine below_set ?_ GE511.out) | exact HB.out)); rintro e w65 ⟨rfl, hi, hb, hk⟩; refine ⟨_, rfl, ?_⟩; have n0_ := Aside0.mk (KeepBut.blk hk (g' := gb506) (o := .cells #[.string a1_0, .int .u8 a1_1, .int .u8 a1_2, .int .u8 a1_3, .string a1_4, .int .i64 a1_5] 36 (0, 0)) q_95 NB506_529.out (by simp)); have n1_ := Aside0.mk (KeepBut.blk hk (g' := gb511) (o := .cells #[.int .i64 t509, .int .i64 t510] 39 (0, 0)) q_97 NB511_529.out (by simp)); have n2_ := Aside0.mk (hb); have n3_ := Aside0.mk (hi); clear BK506; clear BK511; clear HB; clear HI529; have BK506 := n0_; have BK511 := n1_; have HB := n2_; have HI529 := n3_; clear n0_ n1_ n2_ n3_; (try clear hb); (try clear hb2); (try clear hk); (try clear hi)) | ((with_reducible refine gate_dst (N := 11) rfl ?_); (try (refine gate_guard (by rfl) ?_; dsimp only)); refine box_event ?hg (N := 11) ?hd (cs := #[.string (⟨#[]⟩ : ByteArray), .int .u8 0, .int .u8 0, .int .u8 0, .string (⟨#[]⟩ : ByteArray), .int .i64 0]) (t := 36) ?hr ?_; (case hd => rfl); (case hg => rfl); (case hr => first | (go_simp; done) | (go_simp; rfl)); intro gb542 hg w66 hbox hb; have n0_ := Aside0.mk (blk_below (g := gb506) (o := .cells #[.string a1_0, .int .u8 a1_1, .int .u8 a1_2, .int .u8 a1_3, .string a1_4, .int .i64 a1_5] 36 (0, 0)) q_95 hb); have n1_ := Aside0.mk (blk_below (g := gb511) (o := .cells #[.int .i64 t509, .int .i64 t510] 39 (0, 0)) q_97 hb); have n2_ := Aside0.mk (IsS70.below q_98 hb); have n3_ := Aside0.mk (below_step q_99 hb); have n4_ := Aside0.mk (hbox); have n5_ := Aside0.mk ((by rw [hg]; exact (below_size q_99) : w.heap.size ≤ gb542)); have n6_ := Aside0.mk ((by rw [hg]; exact (below_size q_99) : w.heap.size ≤ gb542)); have n7_ := Aside0.mk ((q_149 : gb506 ≠ gb542)); have n8_ := Aside0.mk ((q_150 : gb542 ≠ gb506)); have n9_ := Aside0.mk ((q_151 : gb511 ≠ gb542)); have n10_ := Aside0.mk ((q_152 : gb542 ≠ gb511)); have n11_ := Aside0.mk ((q_100 : g529 ≠ gb542)); have n12_ := Aside0.mk ((q_101 : gb542 ≠ g529)); clear BK506; clear BK511; clear HI529; clear HB; have BK506 := n0_; have BK511 := n1_; have HI529 := n2_; have HB := n3_; have BK542 := n4_; have GW542 := n5_; have GE542 := n6_; have NB506_542 := n7_; have NB542_506 := n8_; have NB511_542 := n9_; have NB542_511 := n10_; have NB529_542 := n11_; have NB542_529 := n12_; clear n0_ n1_ n2_ n3_ n4_ n5_ n6_ n7_ n8_ n9_ n10_ n11_ n12_; clear hb hbox hg; have hnb67 := NB542_506.out; have hnc67 := NB506_542.out; have hnb68 := NB542_511.out; have hnc68 := NB511_542.out; have hnb69 := NB542_529.out; have hnc69 := NB529_542.out; obtain ⟨hcz70_0, hcz70_1, hcz70_2, hcz70_3, hcz70_4, hcz70_5, hfz70_0, hfz70_1, hfz70_2, hfz70_3, hfz70_4, hfz70_5⟩ := cells6_ BK542.out; have hnb71 := NB506_511.out; have hnc71 := NB511_506.out; have hnb72 := NB506_529.out; have hnc72 := NB529_506.out; obtain ⟨hcz73_0, hcz73_1, hcz73_2, hcz73_3, hcz73_4, hcz73_5, hfz73_0, hfz73_1, hfz73_2, hfz73_3, hfz73_4, hfz73_5⟩ := cells6_ BK506.out) | ((with_reducible refine gate_callee (f := 18) rfl ?_); refine goesL_ (some 71) rfl rfl Tryd.func18 (by kernel_rfl) rfl #[] rfl q_7 ?_; (with_reducible refine (diacriticlaw13_awake.calls kj16  true _ (GM.below HG.out q_102) A39.out).mono ?_); rintro e w74 ⟨rfl, hb⟩; refine ⟨_, rfl, ?_⟩; have n0_ := Aside0.mk (blk_below (g := gb506) (o := .cells #[.string a1_0, .int .u8 a1_1, .int .u8 a1_2, .int .u8 a1_3, .string a1_4, .int .i64 0] 36 (0, 0)) q_103 hb); have n1_ := Aside0.mk (blk_below (g := gb511) (o := .cells #[.int .i64 t509, .int .i64 t510] 39 (0, 0)) q_104 hb); have n2_ := Aside0.mk (IsS70.below (show IsS70 w (((((((w66.setCell ⟨gb542, 0, none⟩ (.string t530)).setCell ⟨gb542, 1, none⟩ (.int .u8 t531)).setCell ⟨gb542, 2, none⟩ (.int .u8 t532)).setCell ⟨gb542, 3, none⟩ (.int .u8 t533)).setCell ⟨gb542, 4, none⟩ (.string t534)).setCell ⟨gb542, 5, none⟩ (.int .i64 t535)).setCell ⟨gb506, 5, none⟩ (.int .i64 0)) g529 t537 t538 t539 t540 t541 from by repeat (first | (with_reducible first | exact HI529.out | apply IsS70.alloc | apply IsS70.drewN | apply IsS70.drew | apply IsS70.set_0 | apply IsS70.set_1 | apply IsS70.set_2 | apply IsS70.set_3 | apply IsS70.set_4 | refine IsS70.far ?_ NB529_506.out _ | apply IsS70.far (hne := NB529_506.out) | refine IsS70.far ?_ NB529_511.out _ | apply IsS70.far (hne := NB529_511.out) | refine IsS70.far ?_ NB529_542.out _ | apply IsS70.far (hne := NB529_542.out)) | exact HI529.out)) hb); have n3_ := Aside0.mk (blk_below (g := gb542) (o := .cells #[.string t530, .int .u8 t531, .int .u8 t532, .int .u8 t533, .string t534, .int .i64 t535] 36 (0, 0)) q_105 hb); have n4_ := Aside0.mk (below_step q_102 hb); clear BK506; clear BK511; clear HI529; clear BK542; clear HB; have BK506 := n0_; have BK511 := n1_; have HI529 := n2_; have BK542 := n3_; have HB := n4_; clear n0_ n1_ n2_ n3_ n4_; (try clear hb); (try clear hb2); (try clear hk); (try clear hi); obtain ⟨hcz75_0, hcz75_1, hcz75_2, hcz75_3, hcz75_4, hcz75_5, hfz75_0, hfz75_1, hfz75_2, hfz75_3, hfz75_4, hfz75_5⟩ := cells6_ BK506.out) | (go_at_call 33; (with_reducible refine (diacriticlaw13_Of.calls a1_0 a1_1 a1_2 a1_3 a1_4 0 t544 t545 t546 t547 t548 t549 _ A41.out).mono ?_); rintro e w76 ⟨rfl, hb⟩; have n0_ := Aside0.mk (blk_below (g := gb506) (o := .cells #[.string a1_0, .int .u8 a1_1, .int .u8 a1_2, .int .u8 a1_3, .string a1_4, .int .i64 0] 36 (0, 0)) q_95 hb); have n1_ := Aside0.mk (blk_below (g := gb511) (o := .cells #[.int .i64 t509, .int .i64 t510] 39 (0, 0)) q_97 hb); have n2_ := Aside0.mk (IsS70.below q_106 hb); have n3_ := Aside0.mk (blk_below (g := gb542) (o := .cells #[.string t530, .int .u8 t531, .int .u8 t532, .int .u8 t533, .string t534, .int .i64 t535] 36 (0, 0)) q_107 hb); have n4_ := Aside0.mk (below_step q_102 hb); clear BK506; clear BK511; clear HI529; clear BK542; clear HB; have BK506 := n0_; have BK511 := n1_; have HI529 := n2_; have BK542 := n3_; have HB := n4_; clear n0_ n1_ n2_ n3_ n4_; (try clear hb); (try clear hb2); (try clear hk); (try clear hi)) | (go_at_call 37; (with_reducible refine (diacriticref13_Print.calls kj16 a0 t544 t545 t546 t547 t548 t549 t550 _ A42.out).mono ?_); rintro e w77 ⟨rfl, hb⟩; have n0_ := Aside0.mk (blk_below (g := gb506) (o := .cells #[.string a1_0, .int .u8 a1_1, .int .u8 a1_2, .int .u8 a1_3, .string a1_4, .int .i64 0] 36 (0, 0)) q_95 hb); have n1_ := Aside0.mk (blk_below (g := gb511) (o := .cells #[.int .i64 t509, .int .i64 t510] 39 (0, 0)) q_97 hb); have n2_ := Aside0.mk (IsS70.below q_106 hb); have n3_ := Aside0.mk (blk_below (g := gb542) (o := .cells #[.string t530, .int .u8 t531, .int .u8 t532, .int .u8 t533, .string t534, .int .i64 t535] 36 (0, 0)) q_107 hb); have n4_ := Aside0.mk (below_step q_102 hb); clear BK506; clear BK511; clear HI529; clear BK542; clear HB; have BK506 := n0_; have BK511 := n1_; have HI529 := n2_; have BK542 := n3_; have HB := n4_; clear n0_ n1_ n2_ n3_ n4_; (try clear hb); (try clear hb2); (try clear hk); (try clear hi); obtain ⟨hcz78_0, hcz78_1, hcz78_2, hcz78_3, hcz78_4, hcz78_5, hfz78_0, hfz78_1, hfz78_2, hfz78_3, hfz78_4, hfz78_5⟩ := cells6_ BK542.out; obtain ⟨hcz79_0, hcz79_1, hcz79_2, hcz79_3, hcz79_4, hcz79_5, hfz79_0, hfz79_1, hfz79_2, hfz79_3, hfz79_4, hfz79_5⟩ := cells6_ BK506.out))
                          go_ret
                          exact ⟨q_11, q_102⟩
                      · replace c44 := Bool.eq_false_iff.mpr c44
                        subst c44
                        have H1 : (some false) = some r := by rw [if_neg (show ¬ (false = true) by decide)] at H; exact H
                        clear H
                        have H := H1
                        clear H1
                        obtain rfl := Option.some.inj H
                        go_wp2_with (first | ((with_reducible refine gate_callee (f := 35) rfl ?_); refine goesL_ (some 63) rfl rfl Tryd.func35 (by kernel_rfl) rfl #[.string (t508 ++ a2)] rfl q_7 ?_; (with_reducible refine (octet_Read.calls (t508 ++ a2) t524 t525 t526 t527 t528 w _ ?side1 A37.out).mono ?_); (case side1 => repeat (first | (with_reducible first | exact HB.out | apply below_alloc | apply pw_below_drewN | apply below_drew1 | refine below_set ?_ GE506.out | refine below_set ?_ GE511.out) | exact HB.out)); rintro e w80 ⟨g529, rfl, hi, hb, hb2⟩; refine ⟨_, rfl, ?_⟩; have n0_ := Aside0.mk (blk_below (g := gb506) (o := .cells #[.string a1_0, .int .u8 a1_1, .int .u8 a1_2, .int .u8 a1_3, .string a1_4, .int .i64 a1_5] 36 (0, 0)) q_95 hb2); have n1_ := Aside0.mk (blk_below (g := gb511) (o := .cells #[.int .i64 t509, .int .i64 t510] 39 (0, 0)) q_97 hb2); have n2_ := Aside0.mk (hb); have n3_ := Aside0.mk (hi); have n4_ := Aside0.mk (IsS70.ne_blk hi (blk_below (g := gb506) (o := .cells #[.string a1_0, .int .u8 a1_1, .int .u8 a1_2, .int .u8 a1_3, .string a1_4, .int .i64 a1_5] 36 (0, 0)) q_95 hb2) (by decide)); have n5_ := Aside0.mk (Ne.symm (IsS70.ne_blk hi (blk_below (g := gb506) (o := .cells #[.string a1_0, .int .u8 a1_1, .int .u8 a1_2, .int .u8 a1_3, .string a1_4, .int .i64 a1_5] 36 (0, 0)) q_95 hb2) (by decide))); have n6_ := Aside0.mk (IsS70.ne_blk hi (blk_below (g := gb511) (o := .cells #[.int .i64 t509, .int .i64 t510] 39 (0, 0)) q_97 hb2) (by decide)); have n7_ := Aside0.mk (Ne.symm (IsS70.ne_blk hi (blk_below (g := gb511) (o := .cells #[.int .i64 t509, .int .i64 t510] 39 (0, 0)) q_97 hb2) (by decide))); clear BK506; clear BK511; clear HB; have BK506 := n0_; have BK511 := n1_; have HB := n2_; have HI529 := n3_; have NB529_506 := n4_; have NB506_529 := n5_; have NB529_511 := n6_; have NB511_529 := n7_; clear n0_ n1_ n2_ n3_ n4_ n5_ n6_ n7_; (try clear hb); (try clear hb2); (try clear hk); (try clear hi)) | ((with_reducible refine gate_callee (f := 36) rfl ?_); refine goesL_ (some 67) rfl rfl Tryd.func36 (by kernel_rfl) rfl #[.int .i64 a0, .pointer (some ⟨g529, 0, none⟩), .bool false] rfl q_7 ?_; (with_reducible refine (frame_Parse.calls kj16 a0 g529 t524 t525 t526 t527 t528 false t530 t531 t532 t533 t534 t535 false t537 t538 t539 t540 t541 w _ ?side1 ?side2 HG.out A38.out).mono ?_); (case side1 => repeat (first | (with_reducible first | exact HI529.out | apply IsS70.alloc | apply IsS70.drewN | apply IsS70.drew | apply IsS70.set_0 | apply IsS70.set_1 | apply IsS70.set_2 | apply IsS70.set_3 | apply IsS70.set_4 | refine IsS70.far ?_ NB529_506.out _ | apply IsS70.far (hne := NB529_506.out) | refine IsS70.far ?_ NB529_511.out _ | apply IsS70.far (hne := NB529_511.out)) | exact HI529.out)); (case side2 => repeat (first | (with_reducible first | exact HB.out | apply below_alloc | apply pw_below_drewN | apply below_drew1 | refine below_set ?_ (IsS70.ge HI529.out) | refine below_set ?_ GE506.out | refine below_set ?_ GE511.out) | exact HB.out)); rintro e w81 ⟨rfl, hi, hb, hk⟩; refine ⟨_, rfl, ?_⟩; have n0_ := Aside0.mk (KeepBut.blk hk (g' := gb506) (o := .cells #[.string a1_0, .int .u8 a1_1, .int .u8 a1_2, .int .u8 a1_3, .string a1_4, .int .i64 a1_5] 36 (0, 0)) q_95 NB506_529.out (by simp)); have n1_ := Aside0.mk (KeepBut.blk hk (g' := gb511) (o := .cells #[.int .i64 t509, .int .i64 t510] 39 (0, 0)) q_97 NB511_529.out (by simp)); have n2_ := Aside0.mk (hb); have n3_ := Aside0.mk (hi); clear BK506; clear BK511; clear HB; clear HI529; have BK506 := n0_; have BK511 := n1_; have HB := n2_; have HI529 := n3_; clear n0_ n1_ n2_ n3_; (try clear hb); (try clear hb2); (try clear hk); (try clear hi)) | ((with_reducible refine gate_dst (N := 11) rfl ?_); (try (refine gate_guard (by rfl) ?_; dsimp only)); refine box_event ?hg (N := 11) ?hd (cs := #[.string (⟨#[]⟩ : ByteArray), .int .u8 0, .int .u8 0, .int .u8 0, .string (⟨#[]⟩ : ByteArray), .int .i64 0]) (t := 36) ?hr ?_; (case hd => rfl); (case hg => rfl); (case hr => first | (go_simp; done) | (go_simp; rfl)); intro gb542 hg w82 hbox hb; have n0_ := Aside0.mk (blk_below (g := gb506) (o := .cells #[.string a1_0, .int .u8 a1_1, .int .u8 a1_2, .int .u8 a1_3, .string a1_4, .int .i64 a1_5] 36 (0, 0)) q_95 hb); have n1_ := Aside0.mk (blk_below (g := gb511) (o := .cells #[.int .i64 t509, .int .i64 t510] 39 (0, 0)) q_97 hb); have n2_ := Aside0.mk (IsS70.below q_98 hb); have n3_ := Aside0.mk (below_step q_99 hb); have n4_ := Aside0.mk (hbox); have n5_ := Aside0.mk ((by rw [hg]; exact (below_size q_99) : w.heap.size ≤ gb542)); have n6_ := Aside0.mk ((by rw [hg]; exact (below_size q_99) : w.heap.size ≤ gb542)); have n7_ := Aside0.mk ((q_149 : gb506 ≠ gb542)); have n8_ := Aside0.mk ((q_150 : gb542 ≠ gb506)); have n9_ := Aside0.mk ((q_151 : gb511 ≠ gb542)); have n10_ := Aside0.mk ((q_152 : gb542 ≠ gb511)); have n11_ := Aside0.mk ((q_100 : g529 ≠ gb542)); have n12_ := Aside0.mk ((q_101 : gb542 ≠ g529)); clear BK506; clear BK511; clear HI529; clear HB; have BK506 := n0_; have BK511 := n1_; have HI529 := n2_; have HB := n3_; have BK542 := n4_; have GW542 := n5_; have GE542 := n6_; have NB506_542 := n7_; have NB542_506 := n8_; have NB511_542 := n9_; have NB542_511 := n10_; have NB529_542 := n11_; have NB542_529 := n12_; clear n0_ n1_ n2_ n3_ n4_ n5_ n6_ n7_ n8_ n9_ n10_ n11_ n12_; clear hb hbox hg; have hnb83 := NB542_506.out; have hnc83 := NB506_542.out; have hnb84 := NB542_511.out; have hnc84 := NB511_542.out; have hnb85 := NB542_529.out; have hnc85 := NB529_542.out; obtain ⟨hcz86_0, hcz86_1, hcz86_2, hcz86_3, hcz86_4, hcz86_5, hfz86_0, hfz86_1, hfz86_2, hfz86_3, hfz86_4, hfz86_5⟩ := cells6_ BK542.out; have hnb87 := NB506_511.out; have hnc87 := NB511_506.out; have hnb88 := NB506_529.out; have hnc88 := NB529_506.out; obtain ⟨hcz89_0, hcz89_1, hcz89_2, hcz89_3, hcz89_4, hcz89_5, hfz89_0, hfz89_1, hfz89_2, hfz89_3, hfz89_4, hfz89_5⟩ := cells6_ BK506.out) | ((with_reducible refine gate_callee (f := 18) rfl ?_); refine goesL_ (some 71) rfl rfl Tryd.func18 (by kernel_rfl) rfl #[] rfl q_7 ?_; (with_reducible refine (diacriticlaw13_awake.calls kj16  true _ (GM.below HG.out q_102) A39.out).mono ?_); rintro e w90 ⟨rfl, hb⟩; refine ⟨_, rfl, ?_⟩; have n0_ := Aside0.mk (blk_below (g := gb506) (o := .cells #[.string a1_0, .int .u8 a1_1, .int .u8 a1_2, .int .u8 a1_3, .string a1_4, .int .i64 0] 36 (0, 0)) q_103 hb); have n1_ := Aside0.mk (blk_below (g := gb511) (o := .cells #[.int .i64 t509, .int .i64 t510] 39 (0, 0)) q_104 hb); have n2_ := Aside0.mk (IsS70.below (show IsS70 w (((((((w82.setCell ⟨gb542, 0, none⟩ (.string t530)).setCell ⟨gb542, 1, none⟩ (.int .u8 t531)).setCell ⟨gb542, 2, none⟩ (.int .u8 t532)).setCell ⟨gb542, 3, none⟩ (.int .u8 t533)).setCell ⟨gb542, 4, none⟩ (.string t534)).setCell ⟨gb542, 5, none⟩ (.int .i64 t535)).setCell ⟨gb506, 5, none⟩ (.int .i64 0)) g529 t537 t538 t539 t540 t541 from by repeat (first | (with_reducible first | exact HI529.out | apply IsS70.alloc | apply IsS70.drewN | apply IsS70.drew | apply IsS70.set_0 | apply IsS70.set_1 | apply IsS70.set_2 | apply IsS70.set_3 | apply IsS70.set_4 | refine IsS70.far ?_ NB529_506.out _ | apply IsS70.far (hne := NB529_506.out) | refine IsS70.far ?_ NB529_511.out _ | apply IsS70.far (hne := NB529_511.out) | refine IsS70.far ?_ NB529_542.out _ | apply IsS70.far (hne := NB529_542.out)) | exact HI529.out)) hb); have n3_ := Aside0.mk (blk_below (g := gb542) (o := .cells #[.string t530, .int .u8 t531, .int .u8 t532, .int .u8 t533, .string t534, .int .i64 t535] 36 (0, 0)) q_105 hb); have n4_ := Aside0.mk (below_step q_102 hb); clear BK506; clear BK511; clear HI529; clear BK542; clear HB; have BK506 := n0_; have BK511 := n1_; have HI529 := n2_; have BK542 := n3_; have HB := n4_; clear n0_ n1_ n2_ n3_ n4_; (try clear hb); (try clear hb2); (try clear hk); (try clear hi); obtain ⟨hcz91_0, hcz91_1, hcz91_2, hcz91_3, hcz91_4, hcz91_5, hfz91_0, hfz91_1, hfz91_2, hfz91_3, hfz91_4, hfz91_5⟩ := cells6_ BK506.out) | (go_at_call 33; (with_reducible refine (diacriticlaw13_Of.calls a1_0 a1_1 a1_2 a1_3 a1_4 0 t544 t545 t546 t547 t548 t549 _ A41.out).mono ?_); rintro e w92 ⟨rfl, hb⟩; have n0_ := Aside0.mk (blk_below (g := gb506) (o := .cells #[.string a1_0, .int .u8 a1_1, .int .u8 a1_2, .int .u8 a1_3, .string a1_4, .int .i64 0] 36 (0, 0)) q_95 hb); have n1_ := Aside0.mk (blk_below (g := gb511) (o := .cells #[.int .i64 t509, .int .i64 t510] 39 (0, 0)) q_97 hb); have n2_ := Aside0.mk (IsS70.below q_106 hb); have n3_ := Aside0.mk (blk_below (g := gb542) (o := .cells #[.string t530, .int .u8 t531, .int .u8 t532, .int .u8 t533, .string t534, .int .i64 t535] 36 (0, 0)) q_107 hb); have n4_ := Aside0.mk (below_step q_102 hb); clear BK506; clear BK511; clear HI529; clear BK542; clear HB; have BK506 := n0_; have BK511 := n1_; have HI529 := n2_; have BK542 := n3_; have HB := n4_; clear n0_ n1_ n2_ n3_ n4_; (try clear hb); (try clear hb2); (try clear hk); (try clear hi)) | (go_at_call 37; (with_reducible refine (diacriticref13_Print.calls kj16 a0 t544 t545 t546 t547 t548 t549 t550 _ A42.out).mono ?_); rintro e w93 ⟨rfl, hb⟩; have n0_ := Aside0.mk (blk_below (g := gb506) (o := .cells #[.string a1_0, .int .u8 a1_1, .int .u8 a1_2, .int .u8 a1_3, .string a1_4, .int .i64 0] 36 (0, 0)) q_95 hb); have n1_ := Aside0.mk (blk_below (g := gb511) (o := .cells #[.int .i64 t509, .int .i64 t510] 39 (0, 0)) q_97 hb); have n2_ := Aside0.mk (IsS70.below q_106 hb); have n3_ := Aside0.mk (blk_below (g := gb542) (o := .cells #[.string t530, .int .u8 t531, .int .u8 t532, .int .u8 t533, .string t534, .int .i64 t535] 36 (0, 0)) q_107 hb); have n4_ := Aside0.mk (below_step q_102 hb); clear BK506; clear BK511; clear HI529; clear BK542; clear HB; have BK506 := n0_; have BK511 := n1_; have HI529 := n2_; have BK542 := n3_; have HB := n4_; clear n0_ n1_ n2_ n3_ n4_; (try clear hb); (try clear hb2); (try clear hk); (try clear hi)))
                        go_ret
                        exact ⟨q_11, q_102⟩
                    · rw [if_neg c43] at H
                      have c43b0 : (t508.toList == t550.toList) = false := beq_eq_false_iff_ne.mpr c43
                      have c43b1 : (t508.toList != t550.toList) = true := bne_iff_ne.mpr c43
                      obtain rfl := Option.some.inj H
                      go_wp2_with (first | ((with_reducible refine gate_callee (f := 35) rfl ?_); refine goesL_ (some 63) rfl rfl Tryd.func35 (by kernel_rfl) rfl #[.string (t508 ++ a2)] rfl q_7 ?_; (with_reducible refine (octet_Read.calls (t508 ++ a2) t524 t525 t526 t527 t528 w _ ?side1 A37.out).mono ?_); (case side1 => repeat (first | (with_reducible first | exact HB.out | apply below_alloc | apply pw_below_drewN | apply below_drew1 | refine below_set ?_ GE506.out | refine below_set ?_ GE511.out) | exact HB.out)); rintro e w94 ⟨g529, rfl, hi, hb, hb2⟩; refine ⟨_, rfl, ?_⟩; have n0_ := Aside0.mk (blk_below (g := gb506) (o := .cells #[.string a1_0, .int .u8 a1_1, .int .u8 a1_2, .int .u8 a1_3, .string a1_4, .int .i64 a1_5] 36 (0, 0)) q_95 hb2); have n1_ := Aside0.mk (blk_below (g := gb511) (o := .cells #[.int .i64 t509, .int .i64 t510] 39 (0, 0)) q_97 hb2); have n2_ := Aside0.mk (hb); have n3_ := Aside0.mk (hi); have n4_ := Aside0.mk (IsS70.ne_blk hi (blk_below (g := gb506) (o := .cells #[.string a1_0, .int .u8 a1_1, .int .u8 a1_2, .int .u8 a1_3, .string a1_4, .int .i64 a1_5] 36 (0, 0)) q_95 hb2) (by decide)); have n5_ := Aside0.mk (Ne.symm (IsS70.ne_blk hi (blk_below (g := gb506) (o := .cells #[.string a1_0, .int .u8 a1_1, .int .u8 a1_2, .int .u8 a1_3, .string a1_4, .int .i64 a1_5] 36 (0, 0)) q_95 hb2) (by decide))); have n6_ := Aside0.mk (IsS70.ne_blk hi (blk_below (g := gb511) (o := .cells #[.int .i64 t509, .int .i64 t510] 39 (0, 0)) q_97 hb2) (by decide)); have n7_ := Aside0.mk (Ne.symm (IsS70.ne_blk hi (blk_below (g := gb511) (o := .cells #[.int .i64 t509, .int .i64 t510] 39 (0, 0)) q_97 hb2) (by decide))); clear BK506; clear BK511; clear HB; have BK506 := n0_; have BK511 := n1_; have HB := n2_; have HI529 := n3_; have NB529_506 := n4_; have NB506_529 := n5_; have NB529_511 := n6_; have NB511_529 := n7_; clear n0_ n1_ n2_ n3_ n4_ n5_ n6_ n7_; (try clear hb); (try clear hb2); (try clear hk); (try clear hi)) | ((with_reducible refine gate_callee (f := 36) rfl ?_); refine goesL_ (some 67) rfl rfl Tryd.func36 (by kernel_rfl) rfl #[.int .i64 a0, .pointer (some ⟨g529, 0, none⟩), .bool false] rfl q_7 ?_; (with_reducible refine (frame_Parse.calls kj16 a0 g529 t524 t525 t526 t527 t528 false t530 t531 t532 t533 t534 t535 t536 t537 t538 t539 t540 t541 w _ ?side1 ?side2 HG.out A38.out).mono ?_); (case side1 => repeat (first | (with_reducible first | exact HI529.out | apply IsS70.alloc | apply IsS70.drewN | apply IsS70.drew | apply IsS70.set_0 | apply IsS70.set_1 | apply IsS70.set_2 | apply IsS70.set_3 | apply IsS70.set_4 | refine IsS70.far ?_ NB529_506.out _ | apply IsS70.far (hne := NB529_506.out) | refine IsS70.far ?_ NB529_511.out _ | apply IsS70.far (hne := NB529_511.out)) | exact HI529.out)); (case side2 => repeat (first | (with_reducible first | exact HB.out | apply below_alloc | apply pw_below_drewN | apply below_drew1 | refine below_set ?_ (IsS70.ge HI529.out) | refine below_set ?_ GE506.out | refine below_set ?_ GE511.out) | exact HB.out)); rintro e w95 ⟨rfl, hi, hb, hk⟩; refine ⟨_, rfl, ?_⟩; have n0_ := Aside0.mk (KeepBut.blk hk (g' := gb506) (o := .cells #[.string a1_0, .int .u8 a1_1, .int .u8 a1_2, .int .u8 a1_3, .string a1_4, .int .i64 a1_5] 36 (0, 0)) q_95 NB506_529.out (by simp)); have n1_ := Aside0.mk (KeepBut.blk hk (g' := gb511) (o := .cells #[.int .i64 t509, .int .i64 t510] 39 (0, 0)) q_97 NB511_529.out (by simp)); have n2_ := Aside0.mk (hb); have n3_ := Aside0.mk (hi); clear BK506; clear BK511; clear HB; clear HI529; have BK506 := n0_; have BK511 := n1_; have HB := n2_; have HI529 := n3_; clear n0_ n1_ n2_ n3_; (try clear hb); (try clear hb2); (try clear hk); (try clear hi)) | ((with_reducible refine gate_dst (N := 11) rfl ?_); (try (refine gate_guard (by rfl) ?_; dsimp only)); refine box_event ?hg (N := 11) ?hd (cs := #[.string (⟨#[]⟩ : ByteArray), .int .u8 0, .int .u8 0, .int .u8 0, .string (⟨#[]⟩ : ByteArray), .int .i64 0]) (t := 36) ?hr ?_; (case hd => rfl); (case hg => rfl); (case hr => first | (go_simp; done) | (go_simp; rfl)); intro gb542 hg w96 hbox hb; have n0_ := Aside0.mk (blk_below (g := gb506) (o := .cells #[.string a1_0, .int .u8 a1_1, .int .u8 a1_2, .int .u8 a1_3, .string a1_4, .int .i64 a1_5] 36 (0, 0)) q_95 hb); have n1_ := Aside0.mk (blk_below (g := gb511) (o := .cells #[.int .i64 t509, .int .i64 t510] 39 (0, 0)) q_97 hb); have n2_ := Aside0.mk (IsS70.below q_98 hb); have n3_ := Aside0.mk (below_step q_99 hb); have n4_ := Aside0.mk (hbox); have n5_ := Aside0.mk ((by rw [hg]; exact (below_size q_99) : w.heap.size ≤ gb542)); have n6_ := Aside0.mk ((by rw [hg]; exact (below_size q_99) : w.heap.size ≤ gb542)); have n7_ := Aside0.mk ((q_149 : gb506 ≠ gb542)); have n8_ := Aside0.mk ((q_150 : gb542 ≠ gb506)); have n9_ := Aside0.mk ((q_151 : gb511 ≠ gb542)); have n10_ := Aside0.mk ((q_152 : gb542 ≠ gb511)); have n11_ := Aside0.mk ((q_100 : g529 ≠ gb542)); have n12_ := Aside0.mk ((q_101 : gb542 ≠ g529)); clear BK506; clear BK511; clear HI529; clear HB; have BK506 := n0_; have BK511 := n1_; have HI529 := n2_; have HB := n3_; have BK542 := n4_; have GW542 := n5_; have GE542 := n6_; have NB506_542 := n7_; have NB542_506 := n8_; have NB511_542 := n9_; have NB542_511 := n10_; have NB529_542 := n11_; have NB542_529 := n12_; clear n0_ n1_ n2_ n3_ n4_ n5_ n6_ n7_ n8_ n9_ n10_ n11_ n12_; clear hb hbox hg; have hnb97 := NB542_506.out; have hnc97 := NB506_542.out; have hnb98 := NB542_511.out; have hnc98 := NB511_542.out; have hnb99 := NB542_529.out; have hnc99 := NB529_542.out; obtain ⟨hcz100_0, hcz100_1, hcz100_2, hcz100_3, hcz100_4, hcz100_5, hfz100_0, hfz100_1, hfz100_2, hfz100_3, hfz100_4, hfz100_5⟩ := cells6_ BK542.out; have hnb101 := NB506_511.out; have hnc101 := NB511_506.out; have hnb102 := NB506_529.out; have hnc102 := NB529_506.out; obtain ⟨hcz103_0, hcz103_1, hcz103_2, hcz103_3, hcz103_4, hcz103_5, hfz103_0, hfz103_1, hfz103_2, hfz103_3, hfz103_4, hfz103_5⟩ := cells6_ BK506.out) | ((with_reducible refine gate_callee (f := 18) rfl ?_); refine goesL_ (some 71) rfl rfl Tryd.func18 (by kernel_rfl) rfl #[] rfl q_7 ?_; (with_reducible refine (diacriticlaw13_awake.calls kj16  true _ (GM.below HG.out q_102) A39.out).mono ?_); rintro e w104 ⟨rfl, hb⟩; refine ⟨_, rfl, ?_⟩; have n0_ := Aside0.mk (blk_below (g := gb506) (o := .cells #[.string a1_0, .int .u8 a1_1, .int .u8 a1_2, .int .u8 a1_3, .string a1_4, .int .i64 0] 36 (0, 0)) q_103 hb); have n1_ := Aside0.mk (blk_below (g := gb511) (o := .cells #[.int .i64 t509, .int .i64 t510] 39 (0, 0)) q_104 hb); have n2_ := Aside0.mk (IsS70.below (show IsS70 w (((((((w96.setCell ⟨gb542, 0, none⟩ (.string t530)).setCell ⟨gb542, 1, none⟩ (.int .u8 t531)).setCell ⟨gb542, 2, none⟩ (.int .u8 t532)).setCell ⟨gb542, 3, none⟩ (.int .u8 t533)).setCell ⟨gb542, 4, none⟩ (.string t534)).setCell ⟨gb542, 5, none⟩ (.int .i64 t535)).setCell ⟨gb506, 5, none⟩ (.int .i64 0)) g529 t537 t538 t539 t540 t541 from by repeat (first | (with_reducible first | exact HI529.out | apply IsS70.alloc | apply IsS70.drewN | apply IsS70.drew | apply IsS70.set_0 | apply IsS70.set_1 | apply IsS70.set_2 | apply IsS70.set_3 | apply IsS70.set_4 | refine IsS70.far ?_ NB529_506.out _ | apply IsS70.far (hne := NB529_506.out) | refine IsS70.far ?_ NB529_511.out _ | apply IsS70.far (hne := NB529_511.out) | refine IsS70.far ?_ NB529_542.out _ | apply IsS70.far (hne := NB529_542.out)) | exact HI529.out)) hb); have n3_ := Aside0.mk (blk_below (g := gb542) (o := .cells #[.string t530, .int .u8 t531, .int .u8 t532, .int .u8 t533, .string t534, .int .i64 t535] 36 (0, 0)) q_105 hb); have n4_ := Aside0.mk (below_step q_102 hb); clear BK506; clear BK511; clear HI529; clear BK542; clear HB; have BK506 := n0_; have BK511 := n1_; have HI529 := n2_; have BK542 := n3_; have HB := n4_; clear n0_ n1_ n2_ n3_ n4_; (try clear hb); (try clear hb2); (try clear hk); (try clear hi); obtain ⟨hcz105_0, hcz105_1, hcz105_2, hcz105_3, hcz105_4, hcz105_5, hfz105_0, hfz105_1, hfz105_2, hfz105_3, hfz105_4, hfz105_5⟩ := cells6_ BK506.out) | (go_at_call 33; (with_reducible refine (diacriticlaw13_Of.calls a1_0 a1_1 a1_2 a1_3 a1_4 0 t544 t545 t546 t547 t548 t549 _ A41.out).mono ?_); rintro e w106 ⟨rfl, hb⟩; have n0_ := Aside0.mk (blk_below (g := gb506) (o := .cells #[.string a1_0, .int .u8 a1_1, .int .u8 a1_2, .int .u8 a1_3, .string a1_4, .int .i64 0] 36 (0, 0)) q_95 hb); have n1_ := Aside0.mk (blk_below (g := gb511) (o := .cells #[.int .i64 t509, .int .i64 t510] 39 (0, 0)) q_97 hb); have n2_ := Aside0.mk (IsS70.below q_106 hb); have n3_ := Aside0.mk (blk_below (g := gb542) (o := .cells #[.string t530, .int .u8 t531, .int .u8 t532, .int .u8 t533, .string t534, .int .i64 t535] 36 (0, 0)) q_107 hb); have n4_ := Aside0.mk (below_step q_102 hb); clear BK506; clear BK511; clear HI529; clear BK542; clear HB; have BK506 := n0_; have BK511 := n1_; have HI529 := n2_; have BK542 := n3_; have HB := n4_; clear n0_ n1_ n2_ n3_ n4_; (try clear hb); (try clear hb2); (try clear hk); (try clear hi)) | (go_at_call 37; (with_reducible refine (diacriticref13_Print.calls kj16 a0 t544 t545 t546 t547 t548 t549 t550 _ A42.out).mono ?_); rintro e w107 ⟨rfl, hb⟩; have n0_ := Aside0.mk (blk_below (g := gb506) (o := .cells #[.string a1_0, .int .u8 a1_1, .int .u8 a1_2, .int .u8 a1_3, .string a1_4, .int .i64 0] 36 (0, 0)) q_95 hb); have n1_ := Aside0.mk (blk_below (g := gb511) (o := .cells #[.int .i64 t509, .int .i64 t510] 39 (0, 0)) q_97 hb); have n2_ := Aside0.mk (IsS70.below q_106 hb); have n3_ := Aside0.mk (blk_below (g := gb542) (o := .cells #[.string t530, .int .u8 t531, .int .u8 t532, .int .u8 t533, .string t534, .int .i64 t535] 36 (0, 0)) q_107 hb); have n4_ := Aside0.mk (below_step q_102 hb); clear BK506; clear BK511; clear HI529; clear BK542; clear HB; have BK506 := n0_; have BK511 := n1_; have HI529 := n2_; have BK542 := n3_; have HB := n4_; clear n0_ n1_ n2_ n3_ n4_; (try clear hb); (try clear hb2); (try clear hk); (try clear hi)))
                      go_ret
                      exact ⟨q_11, q_102⟩
                  · replace c40 := Bool.eq_false_iff.mpr c40
                    subst c40
                    have H1 : (some false) = some r := by rw [if_neg (show ¬ (false = true) by decide)] at H; exact H
                    clear H
                    have H := H1
                    clear H1
                    obtain rfl := Option.some.inj H
                    go_wp2_with (first | ((with_reducible refine gate_callee (f := 35) rfl ?_); refine goesL_ (some 63) rfl rfl Tryd.func35 (by kernel_rfl) rfl #[.string (t508 ++ a2)] rfl q_7 ?_; (with_reducible refine (octet_Read.calls (t508 ++ a2) t524 t525 t526 t527 t528 w _ ?side1 A37.out).mono ?_); (case side1 => repeat (first | (with_reducible first | exact HB.out | apply below_alloc | apply pw_below_drewN | apply below_drew1 | refine below_set ?_ GE506.out | refine below_set ?_ GE511.out) | exact HB.out)); rintro e w108 ⟨g529, rfl, hi, hb, hb2⟩; refine ⟨_, rfl, ?_⟩; have n0_ := Aside0.mk (blk_below (g := gb506) (o := .cells #[.string a1_0, .int .u8 a1_1, .int .u8 a1_2, .int .u8 a1_3, .string a1_4, .int .i64 a1_5] 36 (0, 0)) q_95 hb2); have n1_ := Aside0.mk (blk_below (g := gb511) (o := .cells #[.int .i64 t509, .int .i64 t510] 39 (0, 0)) q_97 hb2); have n2_ := Aside0.mk (hb); have n3_ := Aside0.mk (hi); have n4_ := Aside0.mk (IsS70.ne_blk hi (blk_below (g := gb506) (o := .cells #[.string a1_0, .int .u8 a1_1, .int .u8 a1_2, .int .u8 a1_3, .string a1_4, .int .i64 a1_5] 36 (0, 0)) q_95 hb2) (by decide)); have n5_ := Aside0.mk (Ne.symm (IsS70.ne_blk hi (blk_below (g := gb506) (o := .cells #[.string a1_0, .int .u8 a1_1, .int .u8 a1_2, .int .u8 a1_3, .string a1_4, .int .i64 a1_5] 36 (0, 0)) q_95 hb2) (by decide))); have n6_ := Aside0.mk (IsS70.ne_blk hi (blk_below (g := gb511) (o := .cells #[.int .i64 t509, .int .i64 t510] 39 (0, 0)) q_97 hb2) (by decide)); have n7_ := Aside0.mk (Ne.symm (IsS70.ne_blk hi (blk_below (g := gb511) (o := .cells #[.int .i64 t509, .int .i64 t510] 39 (0, 0)) q_97 hb2) (by decide))); clear BK506; clear BK511; clear HB; have BK506 := n0_; have BK511 := n1_; have HB := n2_; have HI529 := n3_; have NB529_506 := n4_; have NB506_529 := n5_; have NB529_511 := n6_; have NB511_529 := n7_; clear n0_ n1_ n2_ n3_ n4_ n5_ n6_ n7_; (try clear hb); (try clear hb2); (try clear hk); (try clear hi)) | ((with_reducible refine gate_callee (f := 36) rfl ?_); refine goesL_ (some 67) rfl rfl Tryd.func36 (by kernel_rfl) rfl #[.int .i64 a0, .pointer (some ⟨g529, 0, none⟩), .bool false] rfl q_7 ?_; (with_reducible refine (frame_Parse.calls kj16 a0 g529 t524 t525 t526 t527 t528 false t530 t531 t532 t533 t534 t535 t536 t537 t538 t539 t540 t541 w _ ?side1 ?side2 HG.out A38.out).mono ?_); (case side1 => repeat (first | (with_reducible first | exact HI529.out | apply IsS70.alloc | apply IsS70.drewN | apply IsS70.drew | apply IsS70.set_0 | apply IsS70.set_1 | apply IsS70.set_2 | apply IsS70.set_3 | apply IsS70.set_4 | refine IsS70.far ?_ NB529_506.out _ | apply IsS70.far (hne := NB529_506.out) | refine IsS70.far ?_ NB529_511.out _ | apply IsS70.far (hne := NB529_511.out)) | exact HI529.out)); (case side2 => repeat (first | (with_reducible first | exact HB.out | apply below_alloc | apply pw_below_drewN | apply below_drew1 | refine below_set ?_ (IsS70.ge HI529.out) | refine below_set ?_ GE506.out | refine below_set ?_ GE511.out) | exact HB.out)); rintro e w109 ⟨rfl, hi, hb, hk⟩; refine ⟨_, rfl, ?_⟩; have n0_ := Aside0.mk (KeepBut.blk hk (g' := gb506) (o := .cells #[.string a1_0, .int .u8 a1_1, .int .u8 a1_2, .int .u8 a1_3, .string a1_4, .int .i64 a1_5] 36 (0, 0)) q_95 NB506_529.out (by simp)); have n1_ := Aside0.mk (KeepBut.blk hk (g' := gb511) (o := .cells #[.int .i64 t509, .int .i64 t510] 39 (0, 0)) q_97 NB511_529.out (by simp)); have n2_ := Aside0.mk (hb); have n3_ := Aside0.mk (hi); clear BK506; clear BK511; clear HB; clear HI529; have BK506 := n0_; have BK511 := n1_; have HB := n2_; have HI529 := n3_; clear n0_ n1_ n2_ n3_; (try clear hb); (try clear hb2); (try clear hk); (try clear hi)) | ((with_reducible refine gate_dst (N := 11) rfl ?_); (try (refine gate_guard (by rfl) ?_; dsimp only)); refine box_event ?hg (N := 11) ?hd (cs := #[.string (⟨#[]⟩ : ByteArray), .int .u8 0, .int .u8 0, .int .u8 0, .string (⟨#[]⟩ : ByteArray), .int .i64 0]) (t := 36) ?hr ?_; (case hd => rfl); (case hg => rfl); (case hr => first | (go_simp; done) | (go_simp; rfl)); intro gb542 hg w110 hbox hb; have n0_ := Aside0.mk (blk_below (g := gb506) (o := .cells #[.string a1_0, .int .u8 a1_1, .int .u8 a1_2, .int .u8 a1_3, .string a1_4, .int .i64 a1_5] 36 (0, 0)) q_95 hb); have n1_ := Aside0.mk (blk_below (g := gb511) (o := .cells #[.int .i64 t509, .int .i64 t510] 39 (0, 0)) q_97 hb); have n2_ := Aside0.mk (IsS70.below q_98 hb); have n3_ := Aside0.mk (below_step q_99 hb); have n4_ := Aside0.mk (hbox); have n5_ := Aside0.mk ((by rw [hg]; exact (below_size q_99) : w.heap.size ≤ gb542)); have n6_ := Aside0.mk ((by rw [hg]; exact (below_size q_99) : w.heap.size ≤ gb542)); have n7_ := Aside0.mk ((q_149 : gb506 ≠ gb542)); have n8_ := Aside0.mk ((q_150 : gb542 ≠ gb506)); have n9_ := Aside0.mk ((q_151 : gb511 ≠ gb542)); have n10_ := Aside0.mk ((q_152 : gb542 ≠ gb511)); have n11_ := Aside0.mk ((q_100 : g529 ≠ gb542)); have n12_ := Aside0.mk ((q_101 : gb542 ≠ g529)); clear BK506; clear BK511; clear HI529; clear HB; have BK506 := n0_; have BK511 := n1_; have HI529 := n2_; have HB := n3_; have BK542 := n4_; have GW542 := n5_; have GE542 := n6_; have NB506_542 := n7_; have NB542_506 := n8_; have NB511_542 := n9_; have NB542_511 := n10_; have NB529_542 := n11_; have NB542_529 := n12_; clear n0_ n1_ n2_ n3_ n4_ n5_ n6_ n7_ n8_ n9_ n10_ n11_ n12_; clear hb hbox hg; have hnb111 := NB542_506.out; have hnc111 := NB506_542.out; have hnb112 := NB542_511.out; have hnc112 := NB511_542.out; have hnb113 := NB542_529.out; have hnc113 := NB529_542.out; obtain ⟨hcz114_0, hcz114_1, hcz114_2, hcz114_3, hcz114_4, hcz114_5, hfz114_0, hfz114_1, hfz114_2, hfz114_3, hfz114_4, hfz114_5⟩ := cells6_ BK542.out; have hnb115 := NB506_511.out; have hnc115 := NB511_506.out; have hnb116 := NB506_529.out; have hnc116 := NB529_506.out; obtain ⟨hcz117_0, hcz117_1, hcz117_2, hcz117_3, hcz117_4, hcz117_5, hfz117_0, hfz117_1, hfz117_2, hfz117_3, hfz117_4, hfz117_5⟩ := cells6_ BK506.out) | ((with_reducible refine gate_callee (f := 18) rfl ?_); refine goesL_ (some 71) rfl rfl Tryd.func18 (by kernel_rfl) rfl #[] rfl q_7 ?_; (with_reducible refine (diacriticlaw13_awake.calls kj16  false _ (GM.below HG.out q_102) A39.out).mono ?_); rintro e w118 ⟨rfl, hb⟩; refine ⟨_, rfl, ?_⟩; have n0_ := Aside0.mk (blk_below (g := gb506) (o := .cells #[.string a1_0, .int .u8 a1_1, .int .u8 a1_2, .int .u8 a1_3, .string a1_4, .int .i64 0] 36 (0, 0)) q_103 hb); have n1_ := Aside0.mk (blk_below (g := gb511) (o := .cells #[.int .i64 t509, .int .i64 t510] 39 (0, 0)) q_104 hb); have n2_ := Aside0.mk (IsS70.below (show IsS70 w (((((((w110.setCell ⟨gb542, 0, none⟩ (.string t530)).setCell ⟨gb542, 1, none⟩ (.int .u8 t531)).setCell ⟨gb542, 2, none⟩ (.int .u8 t532)).setCell ⟨gb542, 3, none⟩ (.int .u8 t533)).setCell ⟨gb542, 4, none⟩ (.string t534)).setCell ⟨gb542, 5, none⟩ (.int .i64 t535)).setCell ⟨gb506, 5, none⟩ (.int .i64 0)) g529 t537 t538 t539 t540 t541 from by repeat (first | (with_reducible first | exact HI529.out | apply IsS70.alloc | apply IsS70.drewN | apply IsS70.drew | apply IsS70.set_0 | apply IsS70.set_1 | apply IsS70.set_2 | apply IsS70.set_3 | apply IsS70.set_4 | refine IsS70.far ?_ NB529_506.out _ | apply IsS70.far (hne := NB529_506.out) | refine IsS70.far ?_ NB529_511.out _ | apply IsS70.far (hne := NB529_511.out) | refine IsS70.far ?_ NB529_542.out _ | apply IsS70.far (hne := NB529_542.out)) | exact HI529.out)) hb); have n3_ := Aside0.mk (blk_below (g := gb542) (o := .cells #[.string t530, .int .u8 t531, .int .u8 t532, .int .u8 t533, .string t534, .int .i64 t535] 36 (0, 0)) q_105 hb); have n4_ := Aside0.mk (below_step q_102 hb); clear BK506; clear BK511; clear HI529; clear BK542; clear HB; have BK506 := n0_; have BK511 := n1_; have HI529 := n2_; have BK542 := n3_; have HB := n4_; clear n0_ n1_ n2_ n3_ n4_; (try clear hb); (try clear hb2); (try clear hk); (try clear hi)))
                    go_ret
                    exact ⟨q_11, q_102⟩
                · rw [if_neg c36] at H
                  exact absurd H (by simp)
              · rw [if_neg c35] at H
                have c35b0 : (t518 == 0) = false := beq_eq_false_iff_ne.mpr c35
                have c35b1 : (t518 != 0) = true := bne_iff_ne.mpr c35
                replace H := Option.bind_eq_some_iff.mp H
                obtain ⟨t523, A1190, H⟩ := H
                replace H : (if t523 = true then (some (t508.toList == ([] : List UInt8))) else (some false)) = some r := H
                have A119 := Aside0.mk A1190
                clear A1190
                by_cases c120 : t523 = true
                · subst c120
                  have H1 : (some (t508.toList == ([] : List UInt8))) = some r := by rw [if_pos rfl] at H; exact H
                  clear H
                  have H := H1
                  clear H1
                  obtain rfl := Option.some.inj H
                  go_wp2_with (first | ((with_reducible refine gate_callee (f := 18) rfl ?_); refine goesL_ (some 55) rfl rfl Tryd.func18 (by kernel_rfl) rfl #[] rfl q_7 ?_; (with_reducible refine (diacriticlaw13_awake.calls kj16  true _ (GM.below HG.out q_96) A119.out).mono ?_); rintro e w121 ⟨rfl, hb⟩; refine ⟨_, rfl, ?_⟩; have n0_ := Aside0.mk (blk_below (g := gb506) (o := .cells #[.string a1_0, .int .u8 a1_1, .int .u8 a1_2, .int .u8 a1_3, .string a1_4, .int .i64 a1_5] 36 (0, 0)) q_95 hb); have n1_ := Aside0.mk (blk_below (g := gb511) (o := .cells #[.int .i64 t509, .int .i64 t510] 39 (0, 0)) q_97 hb); have n2_ := Aside0.mk (below_step q_96 hb); clear BK506; clear BK511; clear HB; have BK506 := n0_; have BK511 := n1_; have HB := n2_; clear n0_ n1_ n2_; (try clear hb); (try clear hb2); (try clear hk); (try clear hi)))
                  go_ret
                  exact ⟨q_11, q_96⟩
                · replace c120 := Bool.eq_false_iff.mpr c120
                  subst c120
                  have H1 : (some false) = some r := by rw [if_neg (show ¬ (false = true) by decide)] at H; exact H
                  clear H
                  have H := H1
                  clear H1
                  obtain rfl := Option.some.inj H
                  go_wp2_with (first | ((with_reducible refine gate_callee (f := 18) rfl ?_); refine goesL_ (some 55) rfl rfl Tryd.func18 (by kernel_rfl) rfl #[] rfl q_7 ?_; (with_reducible refine (diacriticlaw13_awake.calls kj16  false _ (GM.below HG.out q_96) A119.out).mono ?_); rintro e w122 ⟨rfl, hb⟩; refine ⟨_, rfl, ?_⟩; have n0_ := Aside0.mk (blk_below (g := gb506) (o := .cells #[.string a1_0, .int .u8 a1_1, .int .u8 a1_2, .int .u8 a1_3, .string a1_4, .int .i64 a1_5] 36 (0, 0)) q_95 hb); have n1_ := Aside0.mk (blk_below (g := gb511) (o := .cells #[.int .i64 t509, .int .i64 t510] 39 (0, 0)) q_97 hb); have n2_ := Aside0.mk (below_step q_96 hb); clear BK506; clear BK511; clear HB; have BK506 := n0_; have BK511 := n1_; have HB := n2_; clear n0_ n1_ n2_; (try clear hb); (try clear hb2); (try clear hk); (try clear hi)))
                  go_ret
                  exact ⟨q_11, q_96⟩

/-- THE ONE PURE STATEMENT of diacriticlaw13_FramePrints: yours. -/
def diacriticlaw13_FramePrints.Pure : Prop := ∀ (a0 : Int) (a1_0 : ByteArray) (a1_1 : Int) (a1_2 : Int) (a1_3 : Int) (a1_4 : ByteArray) (a1_5 : Int) (a2 : ByteArray), (Lit.int .i64 a0).wf = true → a1_0.size ≤ 9223372036854775807 → (Lit.int .u8 a1_1).wf = true → (Lit.int .u8 a1_2).wf = true → (Lit.int .u8 a1_3).wf = true → a1_4.size ≤ 9223372036854775807 → (Lit.int .i64 a1_5).wf = true → a2.size ≤ 140737488351232 → ∃ k, diacriticlaw13_FramePrints.f k a0 a1_0 a1_1 a1_2 a1_3 a1_4 a1_5 a2 = some true
theorem diacriticlaw13_FramePrints.walk (P : diacriticlaw13_FramePrints.Pure) (a0 : Int) (a1_0 : ByteArray) (a1_1 : Int) (a1_2 : Int) (a1_3 : Int) (a1_4 : ByteArray) (a1_5 : Int) (a2 : ByteArray) (w : World) (w0 : (Lit.int .i64 a0).wf = true) (w1_0_0 : a1_0.size ≤ 9223372036854775807) (w1_1_0 : (Lit.int .u8 a1_1).wf = true) (w1_2_0 : (Lit.int .u8 a1_2).wf = true) (w1_3_0 : (Lit.int .u8 a1_3).wf = true) (w1_4_0 : a1_4.size ≤ 9223372036854775807) (w1_5_0 : (Lit.int .i64 a1_5).wf = true) (w2 : a2.size ≤ 140737488351232) (hG : GM w) :
    Calls Tryd.prog 7 #[.int .i64 a0, .agg #[.string a1_0, .int .u8 a1_1, .int .u8 a1_2, .int .u8 a1_3, .string a1_4, .int .i64 a1_5], .string a2] w fun e w' => e = .returned (.bool true) ∧ Below w.heap.size w w' := by
  obtain ⟨k, h⟩ := P a0 a1_0 a1_1 a1_2 a1_3 a1_4 a1_5 a2 w0 w1_0_0 w1_1_0 w1_2_0 w1_3_0 w1_4_0 w1_5_0 w2
  refine (diacriticlaw13_FramePrints.calls k a0 a1_0 a1_1 a1_2 a1_3 a1_4 a1_5 a2 true w hG h).mono ?_
  rintro e w' ⟨rfl, hd⟩
  exact ⟨rfl, hd⟩

end Go.Proofs.YtlmhlmendnjmlaaDoor.PAll
