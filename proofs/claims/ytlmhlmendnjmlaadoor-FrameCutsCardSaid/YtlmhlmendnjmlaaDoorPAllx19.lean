/- Written by a program of this session: functions of the Go program as Lean functions, and the walks that tie them to it. -/
import Derived.Test.YtlmhlmendnjmlaaDoorPAllx0
import Derived.Test.YtlmhlmendnjmlaaDoorPAllx3
import Derived.Test.YtlmhlmendnjmlaaDoorPAllx7
import Derived.Test.YtlmhlmendnjmlaaDoorPAllx8
import Derived.Test.YtlmhlmendnjmlaaDoorPAllx9
import Derived.Test.YtlmhlmendnjmlaaDoorPAllx17
import Derived.Test.YtlmhlmendnjmlaaDoorPAllx18
namespace Go.Proofs.YtlmhlmendnjmlaaDoor.PAll
open Go.RowKit Go.Proofs.YtlmhlmendnjmlaaDoorW.PrintWords Go.Proofs.YtlmhlmendnjmlaaDoorW.PrintLast Go.Proofs.YtlmhlmendnjmlaaDoorW.PrintMore
attribute [local go_sem] max2_int min2_int max_two min_two max_three min_three max_four min_four   -- for this text's walks alone
set_option linter.unusedVariables false
set_option linter.unusedSimpArgs false

/-! ### diacriticref13_Named: function 30 -/
mutual
def diacriticref13_Named.j0 : Nat → ByteArray → Bool → Option (Bool)
  | 0, _, _ => none
  | k + 1, x1, x14 => if x14 = true then (some false) else (diacriticref13_Named.l0 k x1 0)
def diacriticref13_Named.l0 : Nat → ByteArray → Int → Option (Bool)
  | 0, _, _ => none
  | k + 1, x1, x5 => if x5 < (x1.size : Int) then (if 0 ≤ x5 then ((diacriticref13_Letter.f (bt x1 x5)).bind fun t463 => (if t463 = true then (diacriticref13_Named.l0 k x1 (wrap64 (x5 + 1))) else (some false))) else (none)) else (some true)
end
def diacriticref13_Named.f (k : Nat) (a0 : Int) (a1 : ByteArray) : Option (Bool) := if a1.toList = ([] : List UInt8) then (diacriticref13_Named.j0 k a1 true) else ((diacriticref13_Letters.f a0).bind fun t462 => (diacriticref13_Named.j0 k a1 ((a1.size : Int) != t462)))
theorem diacriticref13_Named.mono_l : ∀ k, (∀ y0 y1, LeO (diacriticref13_Named.j0 k y0 y1) (diacriticref13_Named.j0 (k + 1) y0 y1)) ∧ (∀ y0 y1, LeO (diacriticref13_Named.l0 k y0 y1) (diacriticref13_Named.l0 (k + 1) y0 y1))
  | 0 => ⟨fun _ _ r h => by simp [diacriticref13_Named.j0] at h, fun _ _ r h => by simp [diacriticref13_Named.l0] at h⟩
  | k + 1 => by
    obtain ⟨ih0, ih1⟩ := diacriticref13_Named.mono_l k
    refine ⟨?_, ?_⟩
    · intro y0 y1
      unfold diacriticref13_Named.j0
      repeat' first
      | (with_reducible exact ih0 _ _)
      | (with_reducible exact ih1 _ _)
      | (with_reducible exact LeO.refl _)
      | (with_reducible exact LeO.none _)
      | (with_reducible refine LeO.ite ?_ ?_)
      | (with_reducible refine LeO.bind ?_ (fun _ => ?_))
      | exact ih0 _ _
      | exact ih1 _ _
      | exact LeO.none _
      | refine LeO.ite ?_ ?_
      | refine LeO.bind ?_ (fun _ => ?_)
    · intro y0 y1
      unfold diacriticref13_Named.l0
      repeat' first
      | (with_reducible exact ih0 _ _)
      | (with_reducible exact ih1 _ _)
      | (with_reducible exact LeO.refl _)
      | (with_reducible exact LeO.none _)
      | (with_reducible refine LeO.ite ?_ ?_)
      | (with_reducible refine LeO.bind ?_ (fun _ => ?_))
      | exact ih0 _ _
      | exact ih1 _ _
      | exact LeO.none _
      | refine LeO.ite ?_ ?_
      | refine LeO.bind ?_ (fun _ => ?_)
theorem diacriticref13_Named.mono : ∀ a0 a1 k, LeO (diacriticref13_Named.f k a0 a1) (diacriticref13_Named.f (k + 1) a0 a1) := by
  intro a0 a1 k
  obtain ⟨ih0, ih1⟩ := diacriticref13_Named.mono_l k
  unfold diacriticref13_Named.f
  repeat' first
      | (with_reducible exact ih0 _ _)
      | (with_reducible exact ih1 _ _)
      | (with_reducible exact LeO.refl _)
      | (with_reducible exact LeO.none _)
      | (with_reducible refine LeO.ite ?_ ?_)
      | (with_reducible refine LeO.bind ?_ (fun _ => ?_))
      | exact ih0 _ _
      | exact ih1 _ _
      | exact LeO.none _
      | refine LeO.ite ?_ ?_
      | refine LeO.bind ?_ (fun _ => ?_)
set_option maxHeartbeats 8000000 in
set_option maxRecDepth 100000 in
theorem diacriticref13_Named.calls (k : Nat) (a0 : Int) (a1 : ByteArray) (r : Bool) (w : World) (h : diacriticref13_Named.f k a0 a1 = some r) :
    Calls Tryd.prog 30 #[.int .i64 a0, .string a1] w fun e w' => e = .returned (.bool r) ∧ Drawn0 w w' := by
  have H : (if a1.toList = ([] : List UInt8) then (diacriticref13_Named.j0 k a1 true) else ((diacriticref13_Letters.f a0).bind fun t462 => (diacriticref13_Named.j0 k a1 ((a1.size : Int) != t462)))) = some r := h
  clear h
  have HC3 := Aside0.mk H
  clear H
  go_enter Tryd.func30, Tryd.ntmps30
  go_upto_region 1 with (fail)
  go_cut [14] (fun v14 wc => ∃ (kq : Nat) (x14_2 : Bool), v14 = .bool x14_2 ∧ Aside0 (diacriticref13_Named.j0 kq a1 x14_2 = some r) ∧ Aside0 (kq ≤ k) ∧ Drawn0 w wc)
  case first =>
    have H := HC3.out
    clear HC3
    by_cases c4 : a1.toList = ([] : List UInt8)
    · rw [if_pos c4] at H
      have c4b0 : (a1.toList == ([] : List UInt8)) = true := beq_iff_eq.mpr c4
      have c4b1 : (a1.toList != ([] : List UInt8)) = false := bne_eq_false_iff_eq.mpr c4
      clear c4
      (first | rw [c4b0] | (simp only [i64_w, i32_w]; rw [c4b0]) | skip)
      have H' := Aside0.mk H
      clear H
      go_wp2
      go_meet
      case rel => exact ⟨_, (true), q_1, H', ⟨by first | omega | exact Nat.le_refl _⟩, q_9⟩
    · rw [if_neg c4] at H
      have c4b0 : (a1.toList == ([] : List UInt8)) = false := beq_eq_false_iff_ne.mpr c4
      have c4b1 : (a1.toList != ([] : List UInt8)) = true := bne_iff_ne.mpr c4
      (first | rw [c4b0] | (simp only [i64_w, i32_w]; rw [c4b0]) | skip)
      replace H := Option.bind_eq_some_iff.mp H
      obtain ⟨t462, A50, H⟩ := H
      replace H : (diacriticref13_Named.j0 k a1 ((a1.size : Int) != t462)) = some r := H
      have A5 := Aside0.mk A50
      clear A50
      have H' := Aside0.mk H
      clear H
      go_wp2_with (first | (go_at_call 28; (with_reducible refine (diacriticref13_Letters.calls a0 t462 _ A5.out).mono ?_); rintro e w' ⟨rfl, ⟨nd, rfl⟩⟩))
      go_meet
      case rel => exact ⟨_, (((a1.size : Int) != t462)), q_1, H', ⟨by first | omega | exact Nat.le_refl _⟩, q_9⟩
  case rest =>
    clear HC3
    try clear p2; try clear c3; try clear c4; try clear c4b0; try clear c4b1
    obtain ⟨kq, x14_2, rfl, HA, HJ2, ⟨mc2, rfl⟩⟩ := hcut
    cases kq with
    | zero => exact absurd HA.out (by simp [diacriticref13_Named.j0])
    | succ kj2 =>
      have H := HA.out
      clear HA
      simp only [diacriticref13_Named.j0] at H
      by_cases c6 : x14_2 = true
      · subst c6
        have H1 : (some false) = some r := by rw [if_pos rfl] at H; exact H
        clear H
        have H := H1
        clear H1
        obtain rfl := Option.some.inj H
        go_wp2
        go_ret
        exact ⟨q_1, q_9⟩
      · replace c6 := Bool.eq_false_iff.mpr c6
        subst c6
        have H1 : (diacriticref13_Named.l0 kj2 a1 0) = some r := by rw [if_neg (show ¬ (false = true) by decide)] at H; exact H
        clear H
        have H := H1
        clear H1
        have H' := Aside0.mk H
        clear H
        go_wp2
        go_loopg [5] kj2 (fun kq v5 w' => ∃ (x5_2 : Int), v5 = .int .i64 x5_2 ∧ Aside0 (diacriticref13_Named.l0 kq a1 x5_2 = some r) ∧ Aside0 (kq ≤ kj2) ∧ Drawn0 w w')
        case atStart => exact ⟨(0), q_1, H', ⟨Nat.le_refl _⟩, q_9⟩
        case round =>
          clear H'
          try clear c2; try clear p2; try clear c3; try clear c4; try clear c4b0; try clear c4b1; try clear c6; try clear p2
          obtain ⟨x5_2, rfl, HA, HK2, ⟨m2, rfl⟩⟩ := hrel
          cases gk with
          | zero => exact absurd HA.out (by simp [diacriticref13_Named.l0])
          | succ k2 =>
            have H := HA.out
            clear HA
            simp only [diacriticref13_Named.l0] at H
            by_cases c7 : x5_2 < (a1.size : Int)
            · rw [if_pos c7] at H
              have c7b0 : decide (x5_2 < (a1.size : Int)) = true := decide_eq_true c7
              clear c7
              by_cases c8 : 0 ≤ x5_2
              · rw [if_pos c8] at H
                have c8b0 : decide (0 ≤ x5_2) = true := decide_eq_true c8
                clear c8
                replace H := Option.bind_eq_some_iff.mp H
                obtain ⟨t463, A100, H⟩ := H
                replace H : (if t463 = true then (diacriticref13_Named.l0 k2 a1 (wrap64 (x5_2 + 1))) else (some false)) = some r := H
                have A10 := Aside0.mk A100
                clear A100
                by_cases c11 : t463 = true
                · subst c11
                  have H1 : (diacriticref13_Named.l0 k2 a1 (wrap64 (x5_2 + 1))) = some r := by rw [if_pos rfl] at H; exact H
                  clear H
                  have H := H1
                  clear H1
                  have H' := Aside0.mk H
                  clear H
                  have p9 : 0 ≤ (x5_2 : Int) := of_decide_eq_true q_2
                  have q9 : x5_2 < (a1.size : Int) := of_decide_eq_true q_2
                  have hx9 := bt_at a1 x5_2
                  replace p9 := eq_true p9
                  replace q9 := eq_true q9
                  go_wp2_with (first | ((with_reducible refine gate_callee (f := 48) rfl ?_); refine goesL_ (some 24) rfl rfl Tryd.func48 (by kernel_rfl) rfl #[.int .u8 (bt a1 x5_2)] rfl q_7 ?_; (with_reducible refine (diacriticref13_Letter.calls (bt a1 x5_2) true _ A10.out).mono ?_); rintro e w' ⟨rfl, ⟨nd, rfl⟩⟩; refine ⟨_, rfl, ?_⟩))
                  go_roundg k2
                  case measure => have := HJ2.out; have := HK2.out; omega
                  case rel => exact ⟨(wrap64 (x5_2 + 1)), q_1, H', ⟨by have := HJ2.out; have := HK2.out; omega⟩, q_9⟩
                · replace c11 := Bool.eq_false_iff.mpr c11
                  subst c11
                  have H1 : (some false) = some r := by rw [if_neg (show ¬ (false = true) by decide)] at H; exact H
                  clear H
                  have H := H1
                  clear H1
                  obtain rfl := Option.some.inj H
                  have p9 : 0 ≤ (x5_2 : Int) := of_decide_eq_true q_2
                  have q9 : x5_2 < (a1.size : Int) := of_decide_eq_true q_2
                  have hx9 := bt_at a1 x5_2
                  replace p9 := eq_true p9
                  replace q9 := eq_true q9
                  go_wp2_with (first | ((with_reducible refine gate_callee (f := 48) rfl ?_); refine goesL_ (some 24) rfl rfl Tryd.func48 (by kernel_rfl) rfl #[.int .u8 (bt a1 x5_2)] rfl q_7 ?_; (with_reducible refine (diacriticref13_Letter.calls (bt a1 x5_2) false _ A10.out).mono ?_); rintro e w' ⟨rfl, ⟨nd, rfl⟩⟩; refine ⟨_, rfl, ?_⟩))
                  go_ret
                  exact ⟨q_1, q_9⟩
              · rw [if_neg c8] at H
                exact absurd H (by simp)
            · rw [if_neg c7] at H
              have c7b0 : decide (x5_2 < (a1.size : Int)) = false := decide_eq_false c7
              clear c7
              obtain rfl := Option.some.inj H
              go_wp2
              go_ret
              exact ⟨q_1, q_9⟩

/-! ### diacriticlaw13_FrameFlags: function 6 -/
def diacriticlaw13_FrameFlags.f (k : Nat) (a0 : Int) (a1 : Int) (a2 : ByteArray) : Option (Bool) := if (a2.size : Int) > 100 then ((diacriticlaw13_awake.f k).bind fun t464 => (some t464)) else ((diacriticlaw13_awake.f k).bind fun t466 => (if t466 = true then ((frame_Head_Locked.f a2 0 a1 a0).bind fun t467 => ((diacriticref13_Locked.f a0 (wrap64 (a1))).bind fun t468 => (if (t467 == t468) = true then ((frame_Head_Grouped.f a2 0 a1 a0).bind fun t469 => ((diacriticref13_Grouped.f a0 (wrap64 (a1))).bind fun t470 => (if (t469 == t470) = true then ((frame_Head_Measured.f a2 0 a1 a0).bind fun t471 => ((diacriticref13_Measured.f a0 (wrap64 (a1))).bind fun t472 => (if (t471 == t472) = true then ((frame_Head_Spread.f a2 0 a1 a0).bind fun t473 => ((diacriticref13_Spread.f a0 (wrap64 (a1))).bind fun t474 => (if (t473 == t474) = true then ((frame_Letters.f a0).bind fun t475 => ((diacriticref13_Letters.f a0).bind fun t476 => (if t475 = t476 then ((frame_Named.f k a0 a2).bind fun t477 => ((diacriticref13_Named.f k a0 a2).bind fun t478 => (some (t477 == t478)))) else (some false)))) else (some false)))) else (some false)))) else (some false)))) else (some false)))) else (some false)))
theorem diacriticlaw13_FrameFlags.mono : ∀ a0 a1 a2 k, LeO (diacriticlaw13_FrameFlags.f k a0 a1 a2) (diacriticlaw13_FrameFlags.f (k + 1) a0 a1 a2) := by
  intro a0 a1 a2 k
  unfold diacriticlaw13_FrameFlags.f
  repeat' first
      | (with_reducible exact diacriticlaw13_awake.mono _)
      | (with_reducible exact diacriticref13_Named.mono _ _ _)
      | (with_reducible exact frame_Named.mono _ _ _)
      | (with_reducible exact LeO.refl _)
      | (with_reducible exact LeO.none _)
      | (with_reducible refine LeO.ite ?_ ?_)
      | (with_reducible refine LeO.bind ?_ (fun _ => ?_))
      | exact diacriticlaw13_awake.mono _
      | exact diacriticref13_Named.mono _ _ _
      | exact frame_Named.mono _ _ _
      | exact LeO.none _
      | refine LeO.ite ?_ ?_
      | refine LeO.bind ?_ (fun _ => ?_)
set_option maxHeartbeats 8000000 in
set_option maxRecDepth 100000 in
theorem diacriticlaw13_FrameFlags.calls (k : Nat) (a0 : Int) (a1 : Int) (a2 : ByteArray) (r : Bool) (w : World) (hG : GM w) (h : diacriticlaw13_FrameFlags.f k a0 a1 a2 = some r) :
    Calls Tryd.prog 6 #[.int .i64 a0, .int .u8 a1, .string a2] w fun e w' => e = .returned (.bool r) ∧ Below w.heap.size w w' := by
  have hu29 := Tryd.underlying29
  have HB := Aside0.mk (Below.refl w.heap.size w)
  have HG := Aside0.mk hG
  clear hG
  have H : (if (a2.size : Int) > 100 then ((diacriticlaw13_awake.f k).bind fun t464 => (some t464)) else ((diacriticlaw13_awake.f k).bind fun t466 => (if t466 = true then ((frame_Head_Locked.f a2 0 a1 a0).bind fun t467 => ((diacriticref13_Locked.f a0 (wrap64 (a1))).bind fun t468 => (if (t467 == t468) = true then ((frame_Head_Grouped.f a2 0 a1 a0).bind fun t469 => ((diacriticref13_Grouped.f a0 (wrap64 (a1))).bind fun t470 => (if (t469 == t470) = true then ((frame_Head_Measured.f a2 0 a1 a0).bind fun t471 => ((diacriticref13_Measured.f a0 (wrap64 (a1))).bind fun t472 => (if (t471 == t472) = true then ((frame_Head_Spread.f a2 0 a1 a0).bind fun t473 => ((diacriticref13_Spread.f a0 (wrap64 (a1))).bind fun t474 => (if (t473 == t474) = true then ((frame_Letters.f a0).bind fun t475 => ((diacriticref13_Letters.f a0).bind fun t476 => (if t475 = t476 then ((frame_Named.f k a0 a2).bind fun t477 => ((diacriticref13_Named.f k a0 a2).bind fun t478 => (some (t477 == t478)))) else (some false)))) else (some false)))) else (some false)))) else (some false)))) else (some false)))) else (some false)))) = some r := h
  clear h
  by_cases c4 : (a2.size : Int) > 100
  · rw [if_pos c4] at H
    have c4b0 : decide (100 < (a2.size : Int)) = true := decide_eq_true c4
    have c4b1 : decide (100 < a2.size) = true := decide_eq_true (by omega)
    clear c4
    replace H := Option.bind_eq_some_iff.mp H
    obtain ⟨t464, A50, H⟩ := H
    replace H : (some t464) = some r := H
    have A5 := Aside0.mk A50
    clear A50
    obtain rfl := Option.some.inj H
    go_enter Tryd.func6, Tryd.ntmps6
    go_wp2_with (first | ((with_reducible refine gate_callee (f := 18) rfl ?_); refine goesL_ (some 12) rfl rfl Tryd.func18 (by kernel_rfl) rfl #[] rfl q_7 ?_; (with_reducible refine (diacriticlaw13_awake.calls k  t464 _ (GM.below HG.out q_3) A5.out).mono ?_); rintro e w6 ⟨rfl, hb⟩; refine ⟨_, rfl, ?_⟩; have n0_ := Aside0.mk (below_step q_3 hb); clear HB; have HB := n0_; clear n0_; (try clear hb); (try clear hb2); (try clear hk); (try clear hi)))
    go_ret
    exact ⟨q_11, q_3⟩
  · rw [if_neg c4] at H
    have c4b0 : decide (100 < (a2.size : Int)) = false := decide_eq_false c4
    have c4b1 : decide (100 < a2.size) = false := decide_eq_false (by omega)
    clear c4
    replace H := Option.bind_eq_some_iff.mp H
    obtain ⟨t466, A70, H⟩ := H
    replace H : (if t466 = true then ((frame_Head_Locked.f a2 0 a1 a0).bind fun t467 => ((diacriticref13_Locked.f a0 (wrap64 (a1))).bind fun t468 => (if (t467 == t468) = true then ((frame_Head_Grouped.f a2 0 a1 a0).bind fun t469 => ((diacriticref13_Grouped.f a0 (wrap64 (a1))).bind fun t470 => (if (t469 == t470) = true then ((frame_Head_Measured.f a2 0 a1 a0).bind fun t471 => ((diacriticref13_Measured.f a0 (wrap64 (a1))).bind fun t472 => (if (t471 == t472) = true then ((frame_Head_Spread.f a2 0 a1 a0).bind fun t473 => ((diacriticref13_Spread.f a0 (wrap64 (a1))).bind fun t474 => (if (t473 == t474) = true then ((frame_Letters.f a0).bind fun t475 => ((diacriticref13_Letters.f a0).bind fun t476 => (if t475 = t476 then ((frame_Named.f k a0 a2).bind fun t477 => ((diacriticref13_Named.f k a0 a2).bind fun t478 => (some (t477 == t478)))) else (some false)))) else (some false)))) else (some false)))) else (some false)))) else (some false)))) else (some false)) = some r := H
    have A7 := Aside0.mk A70
    clear A70
    by_cases c8 : t466 = true
    · subst c8
      have H1 : ((frame_Head_Locked.f a2 0 a1 a0).bind fun t467 => ((diacriticref13_Locked.f a0 (wrap64 (a1))).bind fun t468 => (if (t467 == t468) = true then ((frame_Head_Grouped.f a2 0 a1 a0).bind fun t469 => ((diacriticref13_Grouped.f a0 (wrap64 (a1))).bind fun t470 => (if (t469 == t470) = true then ((frame_Head_Measured.f a2 0 a1 a0).bind fun t471 => ((diacriticref13_Measured.f a0 (wrap64 (a1))).bind fun t472 => (if (t471 == t472) = true then ((frame_Head_Spread.f a2 0 a1 a0).bind fun t473 => ((diacriticref13_Spread.f a0 (wrap64 (a1))).bind fun t474 => (if (t473 == t474) = true then ((frame_Letters.f a0).bind fun t475 => ((diacriticref13_Letters.f a0).bind fun t476 => (if t475 = t476 then ((frame_Named.f k a0 a2).bind fun t477 => ((diacriticref13_Named.f k a0 a2).bind fun t478 => (some (t477 == t478)))) else (some false)))) else (some false)))) else (some false)))) else (some false)))) else (some false)))) = some r := by rw [if_pos rfl] at H; exact H
      clear H
      have H := H1
      clear H1
      replace H := Option.bind_eq_some_iff.mp H
      obtain ⟨t467, A90, H⟩ := H
      replace H : ((diacriticref13_Locked.f a0 (wrap64 (a1))).bind fun t468 => (if (t467 == t468) = true then ((frame_Head_Grouped.f a2 0 a1 a0).bind fun t469 => ((diacriticref13_Grouped.f a0 (wrap64 (a1))).bind fun t470 => (if (t469 == t470) = true then ((frame_Head_Measured.f a2 0 a1 a0).bind fun t471 => ((diacriticref13_Measured.f a0 (wrap64 (a1))).bind fun t472 => (if (t471 == t472) = true then ((frame_Head_Spread.f a2 0 a1 a0).bind fun t473 => ((diacriticref13_Spread.f a0 (wrap64 (a1))).bind fun t474 => (if (t473 == t474) = true then ((frame_Letters.f a0).bind fun t475 => ((diacriticref13_Letters.f a0).bind fun t476 => (if t475 = t476 then ((frame_Named.f k a0 a2).bind fun t477 => ((diacriticref13_Named.f k a0 a2).bind fun t478 => (some (t477 == t478)))) else (some false)))) else (some false)))) else (some false)))) else (some false)))) else (some false))) = some r := H
      have A9 := Aside0.mk A90
      clear A90
      replace H := Option.bind_eq_some_iff.mp H
      obtain ⟨t468, A100, H⟩ := H
      replace H : (if (t467 == t468) = true then ((frame_Head_Grouped.f a2 0 a1 a0).bind fun t469 => ((diacriticref13_Grouped.f a0 (wrap64 (a1))).bind fun t470 => (if (t469 == t470) = true then ((frame_Head_Measured.f a2 0 a1 a0).bind fun t471 => ((diacriticref13_Measured.f a0 (wrap64 (a1))).bind fun t472 => (if (t471 == t472) = true then ((frame_Head_Spread.f a2 0 a1 a0).bind fun t473 => ((diacriticref13_Spread.f a0 (wrap64 (a1))).bind fun t474 => (if (t473 == t474) = true then ((frame_Letters.f a0).bind fun t475 => ((diacriticref13_Letters.f a0).bind fun t476 => (if t475 = t476 then ((frame_Named.f k a0 a2).bind fun t477 => ((diacriticref13_Named.f k a0 a2).bind fun t478 => (some (t477 == t478)))) else (some false)))) else (some false)))) else (some false)))) else (some false)))) else (some false)) = some r := H
      have A10 := Aside0.mk A100
      clear A100
      by_cases c11 : (t467 == t468) = true
      · rw [if_pos c11] at H
        have c11b0 : (t467 == t468) = true := c11
        (try (have c11b1 : decide (t467 = t468) = true := by simpa using c11))
        (try (have c11b2 : (t467 == t468) = true := by simpa using c11))
        clear c11
        replace H := Option.bind_eq_some_iff.mp H
        obtain ⟨t469, A120, H⟩ := H
        replace H : ((diacriticref13_Grouped.f a0 (wrap64 (a1))).bind fun t470 => (if (t469 == t470) = true then ((frame_Head_Measured.f a2 0 a1 a0).bind fun t471 => ((diacriticref13_Measured.f a0 (wrap64 (a1))).bind fun t472 => (if (t471 == t472) = true then ((frame_Head_Spread.f a2 0 a1 a0).bind fun t473 => ((diacriticref13_Spread.f a0 (wrap64 (a1))).bind fun t474 => (if (t473 == t474) = true then ((frame_Letters.f a0).bind fun t475 => ((diacriticref13_Letters.f a0).bind fun t476 => (if t475 = t476 then ((frame_Named.f k a0 a2).bind fun t477 => ((diacriticref13_Named.f k a0 a2).bind fun t478 => (some (t477 == t478)))) else (some false)))) else (some false)))) else (some false)))) else (some false))) = some r := H
        have A12 := Aside0.mk A120
        clear A120
        replace H := Option.bind_eq_some_iff.mp H
        obtain ⟨t470, A130, H⟩ := H
        replace H : (if (t469 == t470) = true then ((frame_Head_Measured.f a2 0 a1 a0).bind fun t471 => ((diacriticref13_Measured.f a0 (wrap64 (a1))).bind fun t472 => (if (t471 == t472) = true then ((frame_Head_Spread.f a2 0 a1 a0).bind fun t473 => ((diacriticref13_Spread.f a0 (wrap64 (a1))).bind fun t474 => (if (t473 == t474) = true then ((frame_Letters.f a0).bind fun t475 => ((diacriticref13_Letters.f a0).bind fun t476 => (if t475 = t476 then ((frame_Named.f k a0 a2).bind fun t477 => ((diacriticref13_Named.f k a0 a2).bind fun t478 => (some (t477 == t478)))) else (some false)))) else (some false)))) else (some false)))) else (some false)) = some r := H
        have A13 := Aside0.mk A130
        clear A130
        by_cases c14 : (t469 == t470) = true
        · rw [if_pos c14] at H
          have c14b0 : (t469 == t470) = true := c14
          (try (have c14b1 : decide (t469 = t470) = true := by simpa using c14))
          (try (have c14b2 : (t469 == t470) = true := by simpa using c14))
          clear c14
          replace H := Option.bind_eq_some_iff.mp H
          obtain ⟨t471, A150, H⟩ := H
          replace H : ((diacriticref13_Measured.f a0 (wrap64 (a1))).bind fun t472 => (if (t471 == t472) = true then ((frame_Head_Spread.f a2 0 a1 a0).bind fun t473 => ((diacriticref13_Spread.f a0 (wrap64 (a1))).bind fun t474 => (if (t473 == t474) = true then ((frame_Letters.f a0).bind fun t475 => ((diacriticref13_Letters.f a0).bind fun t476 => (if t475 = t476 then ((frame_Named.f k a0 a2).bind fun t477 => ((diacriticref13_Named.f k a0 a2).bind fun t478 => (some (t477 == t478)))) else (some false)))) else (some false)))) else (some false))) = some r := H
          have A15 := Aside0.mk A150
          clear A150
          replace H := Option.bind_eq_some_iff.mp H
          obtain ⟨t472, A160, H⟩ := H
          replace H : (if (t471 == t472) = true then ((frame_Head_Spread.f a2 0 a1 a0).bind fun t473 => ((diacriticref13_Spread.f a0 (wrap64 (a1))).bind fun t474 => (if (t473 == t474) = true then ((frame_Letters.f a0).bind fun t475 => ((diacriticref13_Letters.f a0).bind fun t476 => (if t475 = t476 then ((frame_Named.f k a0 a2).bind fun t477 => ((diacriticref13_Named.f k a0 a2).bind fun t478 => (some (t477 == t478)))) else (some false)))) else (some false)))) else (some false)) = some r := H
          have A16 := Aside0.mk A160
          clear A160
          by_cases c17 : (t471 == t472) = true
          · rw [if_pos c17] at H
            have c17b0 : (t471 == t472) = true := c17
            (try (have c17b1 : decide (t471 = t472) = true := by simpa using c17))
            (try (have c17b2 : (t471 == t472) = true := by simpa using c17))
            clear c17
            replace H := Option.bind_eq_some_iff.mp H
            obtain ⟨t473, A180, H⟩ := H
            replace H : ((diacriticref13_Spread.f a0 (wrap64 (a1))).bind fun t474 => (if (t473 == t474) = true then ((frame_Letters.f a0).bind fun t475 => ((diacriticref13_Letters.f a0).bind fun t476 => (if t475 = t476 then ((frame_Named.f k a0 a2).bind fun t477 => ((diacriticref13_Named.f k a0 a2).bind fun t478 => (some (t477 == t478)))) else (some false)))) else (some false))) = some r := H
            have A18 := Aside0.mk A180
            clear A180
            replace H := Option.bind_eq_some_iff.mp H
            obtain ⟨t474, A190, H⟩ := H
            replace H : (if (t473 == t474) = true then ((frame_Letters.f a0).bind fun t475 => ((diacriticref13_Letters.f a0).bind fun t476 => (if t475 = t476 then ((frame_Named.f k a0 a2).bind fun t477 => ((diacriticref13_Named.f k a0 a2).bind fun t478 => (some (t477 == t478)))) else (some false)))) else (some false)) = some r := H
            have A19 := Aside0.mk A190
            clear A190
            by_cases c20 : (t473 == t474) = true
            · rw [if_pos c20] at H
              have c20b0 : (t473 == t474) = true := c20
              (try (have c20b1 : decide (t473 = t474) = true := by simpa using c20))
              (try (have c20b2 : (t473 == t474) = true := by simpa using c20))
              clear c20
              replace H := Option.bind_eq_some_iff.mp H
              obtain ⟨t475, A210, H⟩ := H
              replace H : ((diacriticref13_Letters.f a0).bind fun t476 => (if t475 = t476 then ((frame_Named.f k a0 a2).bind fun t477 => ((diacriticref13_Named.f k a0 a2).bind fun t478 => (some (t477 == t478)))) else (some false))) = some r := H
              have A21 := Aside0.mk A210
              clear A210
              replace H := Option.bind_eq_some_iff.mp H
              obtain ⟨t476, A220, H⟩ := H
              replace H : (if t475 = t476 then ((frame_Named.f k a0 a2).bind fun t477 => ((diacriticref13_Named.f k a0 a2).bind fun t478 => (some (t477 == t478)))) else (some false)) = some r := H
              have A22 := Aside0.mk A220
              clear A220
              by_cases c23 : t475 = t476
              · rw [if_pos c23] at H
                have c23b0 : (t475 == t476) = true := beq_iff_eq.mpr c23
                have c23b1 : (t475 != t476) = false := bne_eq_false_iff_eq.mpr c23
                clear c23
                replace H := Option.bind_eq_some_iff.mp H
                obtain ⟨t477, A240, H⟩ := H
                replace H : ((diacriticref13_Named.f k a0 a2).bind fun t478 => (some (t477 == t478))) = some r := H
                have A24 := Aside0.mk A240
                clear A240
                replace H := Option.bind_eq_some_iff.mp H
                obtain ⟨t478, A250, H⟩ := H
                replace H : (some (t477 == t478)) = some r := H
                have A25 := Aside0.mk A250
                clear A250
                obtain rfl := Option.some.inj H
                go_enter Tryd.func6, Tryd.ntmps6
                go_wp2_with (first | ((with_reducible refine gate_dst (N := 7) rfl ?_); refine box_event ?hg (N := 7) ?hd (cs := #[.string (⟨#[]⟩ : ByteArray), .int .u8 0, .int .u8 0]) (t := 29) ?hr ?_; (case hd => rfl); (case hg => rfl); (case hr => first | (go_simp; done) | (go_simp; rfl)); intro gb465 hg w26 hbox hb; have n0_ := Aside0.mk (below_step q_3 hb); have n1_ := Aside0.mk (hbox); have n2_ := Aside0.mk ((by rw [hg]; exact (below_size q_3) : w.heap.size ≤ gb465)); have n3_ := Aside0.mk ((by rw [hg]; exact (below_size q_3) : w.heap.size ≤ gb465)); clear HB; have HB := n0_; have BK465 := n1_; have GW465 := n2_; have GE465 := n3_; clear n0_ n1_ n2_ n3_; clear hb hbox hg; obtain ⟨hcz27_0, hcz27_1, hcz27_2, hfz27_0, hfz27_1, hfz27_2⟩ := cells3_ BK465.out) | ((with_reducible refine gate_callee (f := 18) rfl ?_); refine goesL_ (some 18) rfl rfl Tryd.func18 (by kernel_rfl) rfl #[] rfl q_7 ?_; (with_reducible refine (diacriticlaw13_awake.calls k  true _ (GM.below HG.out q_85) A7.out).mono ?_); rintro e w28 ⟨rfl, hb⟩; refine ⟨_, rfl, ?_⟩; have n0_ := Aside0.mk (blk_below (g := gb465) (o := .cells #[.string a2, .int .u8 0, .int .u8 a1] 29 (0, 0)) q_86 hb); have n1_ := Aside0.mk (below_step q_85 hb); clear BK465; clear HB; have BK465 := n0_; have HB := n1_; clear n0_ n1_; (try clear hb); (try clear hb2); (try clear hk); (try clear hi); obtain ⟨hcz29_0, hcz29_1, hcz29_2, hfz29_0, hfz29_1, hfz29_2⟩ := cells3_ BK465.out) | (go_at_call 19; (with_reducible refine (frame_Head_Locked.calls a2 0 a1 a0 t467 _ A9.out).mono ?_); rintro e w30 ⟨rfl, hb⟩; have n0_ := Aside0.mk (blk_below (g := gb465) (o := .cells #[.string a2, .int .u8 0, .int .u8 a1] 29 (0, 0)) q_87 hb); have n1_ := Aside0.mk (below_step q_85 hb); clear BK465; clear HB; have BK465 := n0_; have HB := n1_; clear n0_ n1_; (try clear hb); (try clear hb2); (try clear hk); (try clear hi)) | (go_at_call 20; (with_reducible refine (diacriticref13_Locked.calls a0 (wrap64 (a1)) t468 _ A10.out).mono ?_); rintro e w' ⟨rfl, ⟨nd, rfl⟩⟩; obtain ⟨hcz31_0, hcz31_1, hcz31_2, hfz31_0, hfz31_1, hfz31_2⟩ := cells3_ BK465.out) | (go_at_call 21; (with_reducible refine (frame_Head_Grouped.calls a2 0 a1 a0 t469 _ A12.out).mono ?_); rintro e w32 ⟨rfl, hb⟩; have n0_ := Aside0.mk (blk_below (g := gb465) (o := .cells #[.string a2, .int .u8 0, .int .u8 a1] 29 (0, 0)) q_87 hb); have n1_ := Aside0.mk (below_step q_85 hb); clear BK465; clear HB; have BK465 := n0_; have HB := n1_; clear n0_ n1_; (try clear hb); (try clear hb2); (try clear hk); (try clear hi)) | (go_at_call 22; (with_reducible refine (diacriticref13_Grouped.calls a0 (wrap64 (a1)) t470 _ A13.out).mono ?_); rintro e w' ⟨rfl, ⟨nd, rfl⟩⟩; obtain ⟨hcz33_0, hcz33_1, hcz33_2, hfz33_0, hfz33_1, hfz33_2⟩ := cells3_ BK465.out) | (go_at_call 23; (with_reducible refine (frame_Head_Measured.calls a2 0 a1 a0 t471 _ A15.out).mono ?_); rintro e w34 ⟨rfl, hb⟩; have n0_ := Aside0.mk (blk_below (g := gb465) (o := .cells #[.string a2, .int .u8 0, .int .u8 a1] 29 (0, 0)) q_87 hb); have n1_ := Aside0.mk (below_step q_85 hb); clear BK465; clear HB; have BK465 := n0_; have HB := n1_; clear n0_ n1_; (try clear hb); (try clear hb2); (try clear hk); (try clear hi)) | (go_at_call 24; (with_reducible refine (diacriticref13_Measured.calls a0 (wrap64 (a1)) t472 _ A16.out).mono ?_); rintro e w' ⟨rfl, ⟨nd, rfl⟩⟩; obtain ⟨hcz35_0, hcz35_1, hcz35_2, hfz35_0, hfz35_1, hfz35_2⟩ := cells3_ BK465.out) | (go_at_call 25; (with_reducible refine (frame_Head_Spread.calls a2 0 a1 a0 t473 _ A18.out).mono ?_); rintro e w36 ⟨rfl, hb⟩; have n0_ := Aside0.mk (blk_below (g := gb465) (o := .cells #[.string a2, .int .u8 0, .int .u8 a1] 29 (0, 0)) q_87 hb); have n1_ := Aside0.mk (below_step q_85 hb); clear BK465; clear HB; have BK465 := n0_; have HB := n1_; clear n0_ n1_; (try clear hb); (try clear hb2); (try clear hk); (try clear hi)) | (go_at_call 26; (with_reducible refine (diacriticref13_Spread.calls a0 (wrap64 (a1)) t474 _ A19.out).mono ?_); rintro e w' ⟨rfl, ⟨nd, rfl⟩⟩) | (go_at_call 27; (with_reducible refine (frame_Letters.calls a0 t475 _ A21.out).mono ?_); rintro e w' ⟨rfl, ⟨nd, rfl⟩⟩) | (go_at_call 28; (with_reducible refine (diacriticref13_Letters.calls a0 t476 _ A22.out).mono ?_); rintro e w' ⟨rfl, ⟨nd, rfl⟩⟩) | (go_at_call 29; (with_reducible refine (frame_Named.calls k a0 a2 t477 _ A24.out).mono ?_); rintro e w' ⟨rfl, ⟨nd, rfl⟩⟩) | (go_at_call 30; (with_reducible refine (diacriticref13_Named.calls k a0 a2 t478 _ A25.out).mono ?_); rintro e w' ⟨rfl, ⟨nd, rfl⟩⟩))
                go_ret
                exact ⟨q_11, q_85⟩
              · rw [if_neg c23] at H
                have c23b0 : (t475 == t476) = false := beq_eq_false_iff_ne.mpr c23
                have c23b1 : (t475 != t476) = true := bne_iff_ne.mpr c23
                obtain rfl := Option.some.inj H
                go_enter Tryd.func6, Tryd.ntmps6
                go_wp2_with (first | ((with_reducible refine gate_dst (N := 7) rfl ?_); refine box_event ?hg (N := 7) ?hd (cs := #[.string (⟨#[]⟩ : ByteArray), .int .u8 0, .int .u8 0]) (t := 29) ?hr ?_; (case hd => rfl); (case hg => rfl); (case hr => first | (go_simp; done) | (go_simp; rfl)); intro gb465 hg w37 hbox hb; have n0_ := Aside0.mk (below_step q_3 hb); have n1_ := Aside0.mk (hbox); have n2_ := Aside0.mk ((by rw [hg]; exact (below_size q_3) : w.heap.size ≤ gb465)); have n3_ := Aside0.mk ((by rw [hg]; exact (below_size q_3) : w.heap.size ≤ gb465)); clear HB; have HB := n0_; have BK465 := n1_; have GW465 := n2_; have GE465 := n3_; clear n0_ n1_ n2_ n3_; clear hb hbox hg; obtain ⟨hcz38_0, hcz38_1, hcz38_2, hfz38_0, hfz38_1, hfz38_2⟩ := cells3_ BK465.out) | ((with_reducible refine gate_callee (f := 18) rfl ?_); refine goesL_ (some 18) rfl rfl Tryd.func18 (by kernel_rfl) rfl #[] rfl q_7 ?_; (with_reducible refine (diacriticlaw13_awake.calls k  true _ (GM.below HG.out q_85) A7.out).mono ?_); rintro e w39 ⟨rfl, hb⟩; refine ⟨_, rfl, ?_⟩; have n0_ := Aside0.mk (blk_below (g := gb465) (o := .cells #[.string a2, .int .u8 0, .int .u8 a1] 29 (0, 0)) q_86 hb); have n1_ := Aside0.mk (below_step q_85 hb); clear BK465; clear HB; have BK465 := n0_; have HB := n1_; clear n0_ n1_; (try clear hb); (try clear hb2); (try clear hk); (try clear hi); obtain ⟨hcz40_0, hcz40_1, hcz40_2, hfz40_0, hfz40_1, hfz40_2⟩ := cells3_ BK465.out) | (go_at_call 19; (with_reducible refine (frame_Head_Locked.calls a2 0 a1 a0 t467 _ A9.out).mono ?_); rintro e w41 ⟨rfl, hb⟩; have n0_ := Aside0.mk (blk_below (g := gb465) (o := .cells #[.string a2, .int .u8 0, .int .u8 a1] 29 (0, 0)) q_87 hb); have n1_ := Aside0.mk (below_step q_85 hb); clear BK465; clear HB; have BK465 := n0_; have HB := n1_; clear n0_ n1_; (try clear hb); (try clear hb2); (try clear hk); (try clear hi)) | (go_at_call 20; (with_reducible refine (diacriticref13_Locked.calls a0 (wrap64 (a1)) t468 _ A10.out).mono ?_); rintro e w' ⟨rfl, ⟨nd, rfl⟩⟩; obtain ⟨hcz42_0, hcz42_1, hcz42_2, hfz42_0, hfz42_1, hfz42_2⟩ := cells3_ BK465.out) | (go_at_call 21; (with_reducible refine (frame_Head_Grouped.calls a2 0 a1 a0 t469 _ A12.out).mono ?_); rintro e w43 ⟨rfl, hb⟩; have n0_ := Aside0.mk (blk_below (g := gb465) (o := .cells #[.string a2, .int .u8 0, .int .u8 a1] 29 (0, 0)) q_87 hb); have n1_ := Aside0.mk (below_step q_85 hb); clear BK465; clear HB; have BK465 := n0_; have HB := n1_; clear n0_ n1_; (try clear hb); (try clear hb2); (try clear hk); (try clear hi)) | (go_at_call 22; (with_reducible refine (diacriticref13_Grouped.calls a0 (wrap64 (a1)) t470 _ A13.out).mono ?_); rintro e w' ⟨rfl, ⟨nd, rfl⟩⟩; obtain ⟨hcz44_0, hcz44_1, hcz44_2, hfz44_0, hfz44_1, hfz44_2⟩ := cells3_ BK465.out) | (go_at_call 23; (with_reducible refine (frame_Head_Measured.calls a2 0 a1 a0 t471 _ A15.out).mono ?_); rintro e w45 ⟨rfl, hb⟩; have n0_ := Aside0.mk (blk_below (g := gb465) (o := .cells #[.string a2, .int .u8 0, .int .u8 a1] 29 (0, 0)) q_87 hb); have n1_ := Aside0.mk (below_step q_85 hb); clear BK465; clear HB; have BK465 := n0_; have HB := n1_; clear n0_ n1_; (try clear hb); (try clear hb2); (try clear hk); (try clear hi)) | (go_at_call 24; (with_reducible refine (diacriticref13_Measured.calls a0 (wrap64 (a1)) t472 _ A16.out).mono ?_); rintro e w' ⟨rfl, ⟨nd, rfl⟩⟩; obtain ⟨hcz46_0, hcz46_1, hcz46_2, hfz46_0, hfz46_1, hfz46_2⟩ := cells3_ BK465.out) | (go_at_call 25; (with_reducible refine (frame_Head_Spread.calls a2 0 a1 a0 t473 _ A18.out).mono ?_); rintro e w47 ⟨rfl, hb⟩; have n0_ := Aside0.mk (blk_below (g := gb465) (o := .cells #[.string a2, .int .u8 0, .int .u8 a1] 29 (0, 0)) q_87 hb); have n1_ := Aside0.mk (below_step q_85 hb); clear BK465; clear HB; have BK465 := n0_; have HB := n1_; clear n0_ n1_; (try clear hb); (try clear hb2); (try clear hk); (try clear hi)) | (go_at_call 26; (with_reducible refine (diacriticref13_Spread.calls a0 (wrap64 (a1)) t474 _ A19.out).mono ?_); rintro e w' ⟨rfl, ⟨nd, rfl⟩⟩) | (go_at_call 27; (with_reducible refine (frame_Letters.calls a0 t475 _ A21.out).mono ?_); rintro e w' ⟨rfl, ⟨nd, rfl⟩⟩) | (go_at_call 28; (with_reducible refine (diacriticref13_Letters.calls a0 t476 _ A22.out).mono ?_); rintro e w' ⟨rfl, ⟨nd, rfl⟩⟩))
                go_ret
                exact ⟨q_11, q_85⟩
            · rw [if_neg c20] at H
              have c20b0 : (t473 == t474) = false := by simpa using c20
              (try (have c20b1 : decide (t473 = t474) = false := by simpa using c20))
              (try (have c20b2 : (t473 == t474) = false := by simpa using c20))
              (try (have c20b3 : ¬ (t473 = t474) := by simpa using c20))
              clear c20
              obtain rfl := Option.some.inj H
              go_enter Tryd.func6, Tryd.ntmps6
              go_wp2_with (first | ((with_reducible refine gate_dst (N := 7) rfl ?_); refine box_event ?hg (N := 7) ?hd (cs := #[.string (⟨#[]⟩ : ByteArray), .int .u8 0, .int .u8 0]) (t := 29) ?hr ?_; (case hd => rfl); (case hg => rfl); (case hr => first | (go_simp; done) | (go_simp; rfl)); intro gb465 hg w48 hbox hb; have n0_ := Aside0.mk (below_step q_3 hb); have n1_ := Aside0.mk (hbox); have n2_ := Aside0.mk ((by rw [hg]; exact (below_size q_3) : w.heap.size ≤ gb465)); have n3_ := Aside0.mk ((by rw [hg]; exact (below_size q_3) : w.heap.size ≤ gb465)); clear HB; have HB := n0_; have BK465 := n1_; have GW465 := n2_; have GE465 := n3_; clear n0_ n1_ n2_ n3_; clear hb hbox hg; obtain ⟨hcz49_0, hcz49_1, hcz49_2, hfz49_0, hfz49_1, hfz49_2⟩ := cells3_ BK465.out) | ((with_reducible refine gate_callee (f := 18) rfl ?_); refine goesL_ (some 18) rfl rfl Tryd.func18 (by kernel_rfl) rfl #[] rfl q_7 ?_; (with_reducible refine (diacriticlaw13_awake.calls k  true _ (GM.below HG.out q_85) A7.out).mono ?_); rintro e w50 ⟨rfl, hb⟩; refine ⟨_, rfl, ?_⟩; have n0_ := Aside0.mk (blk_below (g := gb465) (o := .cells #[.string a2, .int .u8 0, .int .u8 a1] 29 (0, 0)) q_86 hb); have n1_ := Aside0.mk (below_step q_85 hb); clear BK465; clear HB; have BK465 := n0_; have HB := n1_; clear n0_ n1_; (try clear hb); (try clear hb2); (try clear hk); (try clear hi); obtain ⟨hcz51_0, hcz51_1, hcz51_2, hfz51_0, hfz51_1, hfz51_2⟩ := cells3_ BK465.out) | (go_at_call 19; (with_reducible refine (frame_Head_Locked.calls a2 0 a1 a0 t467 _ A9.out).mono ?_); rintro e w52 ⟨rfl, hb⟩; have n0_ := Aside0.mk (blk_below (g := gb465) (o := .cells #[.string a2, .int .u8 0, .int .u8 a1] 29 (0, 0)) q_87 hb); have n1_ := Aside0.mk (below_step q_85 hb); clear BK465; clear HB; have BK465 := n0_; have HB := n1_; clear n0_ n1_; (try clear hb); (try clear hb2); (try clear hk); (try clear hi)) | (go_at_call 20; (with_reducible refine (diacriticref13_Locked.calls a0 (wrap64 (a1)) t468 _ A10.out).mono ?_); rintro e w' ⟨rfl, ⟨nd, rfl⟩⟩; obtain ⟨hcz53_0, hcz53_1, hcz53_2, hfz53_0, hfz53_1, hfz53_2⟩ := cells3_ BK465.out) | (go_at_call 21; (with_reducible refine (frame_Head_Grouped.calls a2 0 a1 a0 t469 _ A12.out).mono ?_); rintro e w54 ⟨rfl, hb⟩; have n0_ := Aside0.mk (blk_below (g := gb465) (o := .cells #[.string a2, .int .u8 0, .int .u8 a1] 29 (0, 0)) q_87 hb); have n1_ := Aside0.mk (below_step q_85 hb); clear BK465; clear HB; have BK465 := n0_; have HB := n1_; clear n0_ n1_; (try clear hb); (try clear hb2); (try clear hk); (try clear hi)) | (go_at_call 22; (with_reducible refine (diacriticref13_Grouped.calls a0 (wrap64 (a1)) t470 _ A13.out).mono ?_); rintro e w' ⟨rfl, ⟨nd, rfl⟩⟩; obtain ⟨hcz55_0, hcz55_1, hcz55_2, hfz55_0, hfz55_1, hfz55_2⟩ := cells3_ BK465.out) | (go_at_call 23; (with_reducible refine (frame_Head_Measured.calls a2 0 a1 a0 t471 _ A15.out).mono ?_); rintro e w56 ⟨rfl, hb⟩; have n0_ := Aside0.mk (blk_below (g := gb465) (o := .cells #[.string a2, .int .u8 0, .int .u8 a1] 29 (0, 0)) q_87 hb); have n1_ := Aside0.mk (below_step q_85 hb); clear BK465; clear HB; have BK465 := n0_; have HB := n1_; clear n0_ n1_; (try clear hb); (try clear hb2); (try clear hk); (try clear hi)) | (go_at_call 24; (with_reducible refine (diacriticref13_Measured.calls a0 (wrap64 (a1)) t472 _ A16.out).mono ?_); rintro e w' ⟨rfl, ⟨nd, rfl⟩⟩; obtain ⟨hcz57_0, hcz57_1, hcz57_2, hfz57_0, hfz57_1, hfz57_2⟩ := cells3_ BK465.out) | (go_at_call 25; (with_reducible refine (frame_Head_Spread.calls a2 0 a1 a0 t473 _ A18.out).mono ?_); rintro e w58 ⟨rfl, hb⟩; have n0_ := Aside0.mk (blk_below (g := gb465) (o := .cells #[.string a2, .int .u8 0, .int .u8 a1] 29 (0, 0)) q_87 hb); have n1_ := Aside0.mk (below_step q_85 hb); clear BK465; clear HB; have BK465 := n0_; have HB := n1_; clear n0_ n1_; (try clear hb); (try clear hb2); (try clear hk); (try clear hi)) | (go_at_call 26; (with_reducible refine (diacriticref13_Spread.calls a0 (wrap64 (a1)) t474 _ A19.out).mono ?_); rintro e w' ⟨rfl, ⟨nd, rfl⟩⟩))
              go_ret
              exact ⟨q_11, q_85⟩
          · rw [if_neg c17] at H
            have c17b0 : (t471 == t472) = false := by simpa using c17
            (try (have c17b1 : decide (t471 = t472) = false := by simpa using c17))
            (try (have c17b2 : (t471 == t472) = false := by simpa using c17))
            (try (have c17b3 : ¬ (t471 = t472) := by simpa using c17))
            clear c17
            obtain rfl := Option.some.inj H
            go_enter Tryd.func6, Tryd.ntmps6
            go_wp2_with (first | ((with_reducible refine gate_dst (N := 7) rfl ?_); refine box_event ?hg (N := 7) ?hd (cs := #[.string (⟨#[]⟩ : ByteArray), .int .u8 0, .int .u8 0]) (t := 29) ?hr ?_; (case hd => rfl); (case hg => rfl); (case hr => first | (go_simp; done) | (go_simp; rfl)); intro gb465 hg w59 hbox hb; have n0_ := Aside0.mk (below_step q_3 hb); have n1_ := Aside0.mk (hbox); have n2_ := Aside0.mk ((by rw [hg]; exact (below_size q_3) : w.heap.size ≤ gb465)); have n3_ := Aside0.mk ((by rw [hg]; exact (below_size q_3) : w.heap.size ≤ gb465)); clear HB; have HB := n0_; have BK465 := n1_; have GW465 := n2_; have GE465 := n3_; clear n0_ n1_ n2_ n3_; clear hb hbox hg; obtain ⟨hcz60_0, hcz60_1, hcz60_2, hfz60_0, hfz60_1, hfz60_2⟩ := cells3_ BK465.out) | ((with_reducible refine gate_callee (f := 18) rfl ?_); refine goesL_ (some 18) rfl rfl Tryd.func18 (by kernel_rfl) rfl #[] rfl q_7 ?_; (with_reducible refine (diacriticlaw13_awake.calls k  true _ (GM.below HG.out q_85) A7.out).mono ?_); rintro e w61 ⟨rfl, hb⟩; refine ⟨_, rfl, ?_⟩; have n0_ := Aside0.mk (blk_below (g := gb465) (o := .cells #[.string a2, .int .u8 0, .int .u8 a1] 29 (0, 0)) q_86 hb); have n1_ := Aside0.mk (below_step q_85 hb); clear BK465; clear HB; have BK465 := n0_; have HB := n1_; clear n0_ n1_; (try clear hb); (try clear hb2); (try clear hk); (try clear hi); obtain ⟨hcz62_0, hcz62_1, hcz62_2, hfz62_0, hfz62_1, hfz62_2⟩ := cells3_ BK465.out) | (go_at_call 19; (with_reducible refine (frame_Head_Locked.calls a2 0 a1 a0 t467 _ A9.out).mono ?_); rintro e w63 ⟨rfl, hb⟩; have n0_ := Aside0.mk (blk_below (g := gb465) (o := .cells #[.string a2, .int .u8 0, .int .u8 a1] 29 (0, 0)) q_87 hb); have n1_ := Aside0.mk (below_step q_85 hb); clear BK465; clear HB; have BK465 := n0_; have HB := n1_; clear n0_ n1_; (try clear hb); (try clear hb2); (try clear hk); (try clear hi)) | (go_at_call 20; (with_reducible refine (diacriticref13_Locked.calls a0 (wrap64 (a1)) t468 _ A10.out).mono ?_); rintro e w' ⟨rfl, ⟨nd, rfl⟩⟩; obtain ⟨hcz64_0, hcz64_1, hcz64_2, hfz64_0, hfz64_1, hfz64_2⟩ := cells3_ BK465.out) | (go_at_call 21; (with_reducible refine (frame_Head_Grouped.calls a2 0 a1 a0 t469 _ A12.out).mono ?_); rintro e w65 ⟨rfl, hb⟩; have n0_ := Aside0.mk (blk_below (g := gb465) (o := .cells #[.string a2, .int .u8 0, .int .u8 a1] 29 (0, 0)) q_87 hb); have n1_ := Aside0.mk (below_step q_85 hb); clear BK465; clear HB; have BK465 := n0_; have HB := n1_; clear n0_ n1_; (try clear hb); (try clear hb2); (try clear hk); (try clear hi)) | (go_at_call 22; (with_reducible refine (diacriticref13_Grouped.calls a0 (wrap64 (a1)) t470 _ A13.out).mono ?_); rintro e w' ⟨rfl, ⟨nd, rfl⟩⟩; obtain ⟨hcz66_0, hcz66_1, hcz66_2, hfz66_0, hfz66_1, hfz66_2⟩ := cells3_ BK465.out) | (go_at_call 23; (with_reducible refine (frame_Head_Measured.calls a2 0 a1 a0 t471 _ A15.out).mono ?_); rintro e w67 ⟨rfl, hb⟩; have n0_ := Aside0.mk (blk_below (g := gb465) (o := .cells #[.string a2, .int .u8 0, .int .u8 a1] 29 (0, 0)) q_87 hb); have n1_ := Aside0.mk (below_step q_85 hb); clear BK465; clear HB; have BK465 := n0_; have HB := n1_; clear n0_ n1_; (try clear hb); (try clear hb2); (try clear hk); (try clear hi)) | (go_at_call 24; (with_reducible refine (diacriticref13_Measured.calls a0 (wrap64 (a1)) t472 _ A16.out).mono ?_); rintro e w' ⟨rfl, ⟨nd, rfl⟩⟩))
            go_ret
            exact ⟨q_11, q_85⟩
        · rw [if_neg c14] at H
          have c14b0 : (t469 == t470) = false := by simpa using c14
          (try (have c14b1 : decide (t469 = t470) = false := by simpa using c14))
          (try (have c14b2 : (t469 == t470) = false := by simpa using c14))
          (try (have c14b3 : ¬ (t469 = t470) := by simpa using c14))
          clear c14
          obtain rfl := Option.some.inj H
          go_enter Tryd.func6, Tryd.ntmps6
          go_wp2_with (first | ((with_reducible refine gate_dst (N := 7) rfl ?_); refine box_event ?hg (N := 7) ?hd (cs := #[.string (⟨#[]⟩ : ByteArray), .int .u8 0, .int .u8 0]) (t := 29) ?hr ?_; (case hd => rfl); (case hg => rfl); (case hr => first | (go_simp; done) | (go_simp; rfl)); intro gb465 hg w68 hbox hb; have n0_ := Aside0.mk (below_step q_3 hb); have n1_ := Aside0.mk (hbox); have n2_ := Aside0.mk ((by rw [hg]; exact (below_size q_3) : w.heap.size ≤ gb465)); have n3_ := Aside0.mk ((by rw [hg]; exact (below_size q_3) : w.heap.size ≤ gb465)); clear HB; have HB := n0_; have BK465 := n1_; have GW465 := n2_; have GE465 := n3_; clear n0_ n1_ n2_ n3_; clear hb hbox hg; obtain ⟨hcz69_0, hcz69_1, hcz69_2, hfz69_0, hfz69_1, hfz69_2⟩ := cells3_ BK465.out) | ((with_reducible refine gate_callee (f := 18) rfl ?_); refine goesL_ (some 18) rfl rfl Tryd.func18 (by kernel_rfl) rfl #[] rfl q_7 ?_; (with_reducible refine (diacriticlaw13_awake.calls k  true _ (GM.below HG.out q_85) A7.out).mono ?_); rintro e w70 ⟨rfl, hb⟩; refine ⟨_, rfl, ?_⟩; have n0_ := Aside0.mk (blk_below (g := gb465) (o := .cells #[.string a2, .int .u8 0, .int .u8 a1] 29 (0, 0)) q_86 hb); have n1_ := Aside0.mk (below_step q_85 hb); clear BK465; clear HB; have BK465 := n0_; have HB := n1_; clear n0_ n1_; (try clear hb); (try clear hb2); (try clear hk); (try clear hi); obtain ⟨hcz71_0, hcz71_1, hcz71_2, hfz71_0, hfz71_1, hfz71_2⟩ := cells3_ BK465.out) | (go_at_call 19; (with_reducible refine (frame_Head_Locked.calls a2 0 a1 a0 t467 _ A9.out).mono ?_); rintro e w72 ⟨rfl, hb⟩; have n0_ := Aside0.mk (blk_below (g := gb465) (o := .cells #[.string a2, .int .u8 0, .int .u8 a1] 29 (0, 0)) q_87 hb); have n1_ := Aside0.mk (below_step q_85 hb); clear BK465; clear HB; have BK465 := n0_; have HB := n1_; clear n0_ n1_; (try clear hb); (try clear hb2); (try clear hk); (try clear hi)) | (go_at_call 20; (with_reducible refine (diacriticref13_Locked.calls a0 (wrap64 (a1)) t468 _ A10.out).mono ?_); rintro e w' ⟨rfl, ⟨nd, rfl⟩⟩; obtain ⟨hcz73_0, hcz73_1, hcz73_2, hfz73_0, hfz73_1, hfz73_2⟩ := cells3_ BK465.out) | (go_at_call 21; (with_reducible refine (frame_Head_Grouped.calls a2 0 a1 a0 t469 _ A12.out).mono ?_); rintro e w74 ⟨rfl, hb⟩; have n0_ := Aside0.mk (blk_below (g := gb465) (o := .cells #[.string a2, .int .u8 0, .int .u8 a1] 29 (0, 0)) q_87 hb); have n1_ := Aside0.mk (below_step q_85 hb); clear BK465; clear HB; have BK465 := n0_; have HB := n1_; clear n0_ n1_; (try clear hb); (try clear hb2); (try clear hk); (try clear hi)) | (go_at_call 22; (with_reducible refine (diacriticref13_Grouped.calls a0 (wrap64 (a1)) t470 _ A13.out).mono ?_); rintro e w' ⟨rfl, ⟨nd, rfl⟩⟩))
          go_ret
          exact ⟨q_11, q_85⟩
      · rw [if_neg c11] at H
        have c11b0 : (t467 == t468) = false := by simpa using c11
        (try (have c11b1 : decide (t467 = t468) = false := by simpa using c11))
        (try (have c11b2 : (t467 == t468) = false := by simpa using c11))
        (try (have c11b3 : ¬ (t467 = t468) := by simpa using c11))
        clear c11
        obtain rfl := Option.some.inj H
        go_enter Tryd.func6, Tryd.ntmps6
        go_wp2_with (first | ((with_reducible refine gate_dst (N := 7) rfl ?_); refine box_event ?hg (N := 7) ?hd (cs := #[.string (⟨#[]⟩ : ByteArray), .int .u8 0, .int .u8 0]) (t := 29) ?hr ?_; (case hd => rfl); (case hg => rfl); (case hr => first | (go_simp; done) | (go_simp; rfl)); intro gb465 hg w75 hbox hb; have n0_ := Aside0.mk (below_step q_3 hb); have n1_ := Aside0.mk (hbox); have n2_ := Aside0.mk ((by rw [hg]; exact (below_size q_3) : w.heap.size ≤ gb465)); have n3_ := Aside0.mk ((by rw [hg]; exact (below_size q_3) : w.heap.size ≤ gb465)); clear HB; have HB := n0_; have BK465 := n1_; have GW465 := n2_; have GE465 := n3_; clear n0_ n1_ n2_ n3_; clear hb hbox hg; obtain ⟨hcz76_0, hcz76_1, hcz76_2, hfz76_0, hfz76_1, hfz76_2⟩ := cells3_ BK465.out) | ((with_reducible refine gate_callee (f := 18) rfl ?_); refine goesL_ (some 18) rfl rfl Tryd.func18 (by kernel_rfl) rfl #[] rfl q_7 ?_; (with_reducible refine (diacriticlaw13_awake.calls k  true _ (GM.below HG.out q_85) A7.out).mono ?_); rintro e w77 ⟨rfl, hb⟩; refine ⟨_, rfl, ?_⟩; have n0_ := Aside0.mk (blk_below (g := gb465) (o := .cells #[.string a2, .int .u8 0, .int .u8 a1] 29 (0, 0)) q_86 hb); have n1_ := Aside0.mk (below_step q_85 hb); clear BK465; clear HB; have BK465 := n0_; have HB := n1_; clear n0_ n1_; (try clear hb); (try clear hb2); (try clear hk); (try clear hi); obtain ⟨hcz78_0, hcz78_1, hcz78_2, hfz78_0, hfz78_1, hfz78_2⟩ := cells3_ BK465.out) | (go_at_call 19; (with_reducible refine (frame_Head_Locked.calls a2 0 a1 a0 t467 _ A9.out).mono ?_); rintro e w79 ⟨rfl, hb⟩; have n0_ := Aside0.mk (blk_below (g := gb465) (o := .cells #[.string a2, .int .u8 0, .int .u8 a1] 29 (0, 0)) q_87 hb); have n1_ := Aside0.mk (below_step q_85 hb); clear BK465; clear HB; have BK465 := n0_; have HB := n1_; clear n0_ n1_; (try clear hb); (try clear hb2); (try clear hk); (try clear hi)) | (go_at_call 20; (with_reducible refine (diacriticref13_Locked.calls a0 (wrap64 (a1)) t468 _ A10.out).mono ?_); rintro e w' ⟨rfl, ⟨nd, rfl⟩⟩))
        go_ret
        exact ⟨q_11, q_85⟩
    · replace c8 := Bool.eq_false_iff.mpr c8
      subst c8
      have H1 : (some false) = some r := by rw [if_neg (show ¬ (false = true) by decide)] at H; exact H
      clear H
      have H := H1
      clear H1
      obtain rfl := Option.some.inj H
      go_enter Tryd.func6, Tryd.ntmps6
      go_wp2_with (first | ((with_reducible refine gate_dst (N := 7) rfl ?_); refine box_event ?hg (N := 7) ?hd (cs := #[.string (⟨#[]⟩ : ByteArray), .int .u8 0, .int .u8 0]) (t := 29) ?hr ?_; (case hd => rfl); (case hg => rfl); (case hr => first | (go_simp; done) | (go_simp; rfl)); intro gb465 hg w80 hbox hb; have n0_ := Aside0.mk (below_step q_3 hb); have n1_ := Aside0.mk (hbox); have n2_ := Aside0.mk ((by rw [hg]; exact (below_size q_3) : w.heap.size ≤ gb465)); have n3_ := Aside0.mk ((by rw [hg]; exact (below_size q_3) : w.heap.size ≤ gb465)); clear HB; have HB := n0_; have BK465 := n1_; have GW465 := n2_; have GE465 := n3_; clear n0_ n1_ n2_ n3_; clear hb hbox hg; obtain ⟨hcz81_0, hcz81_1, hcz81_2, hfz81_0, hfz81_1, hfz81_2⟩ := cells3_ BK465.out) | ((with_reducible refine gate_callee (f := 18) rfl ?_); refine goesL_ (some 18) rfl rfl Tryd.func18 (by kernel_rfl) rfl #[] rfl q_7 ?_; (with_reducible refine (diacriticlaw13_awake.calls k  false _ (GM.below HG.out q_85) A7.out).mono ?_); rintro e w82 ⟨rfl, hb⟩; refine ⟨_, rfl, ?_⟩; have n0_ := Aside0.mk (blk_below (g := gb465) (o := .cells #[.string a2, .int .u8 0, .int .u8 a1] 29 (0, 0)) q_86 hb); have n1_ := Aside0.mk (below_step q_85 hb); clear BK465; clear HB; have BK465 := n0_; have HB := n1_; clear n0_ n1_; (try clear hb); (try clear hb2); (try clear hk); (try clear hi)))
      go_ret
      exact ⟨q_11, q_85⟩

/-- THE ONE PURE STATEMENT of diacriticlaw13_FrameFlags: yours. -/
def diacriticlaw13_FrameFlags.Pure : Prop := ∀ (a0 : Int) (a1 : Int) (a2 : ByteArray), (Lit.int .i64 a0).wf = true → (Lit.int .u8 a1).wf = true → a2.size ≤ 140737488351232 → ∃ k, diacriticlaw13_FrameFlags.f k a0 a1 a2 = some true
theorem diacriticlaw13_FrameFlags.walk (P : diacriticlaw13_FrameFlags.Pure) (a0 : Int) (a1 : Int) (a2 : ByteArray) (w : World) (w0 : (Lit.int .i64 a0).wf = true) (w1 : (Lit.int .u8 a1).wf = true) (w2 : a2.size ≤ 140737488351232) (hG : GM w) :
    Calls Tryd.prog 6 #[.int .i64 a0, .int .u8 a1, .string a2] w fun e w' => e = .returned (.bool true) ∧ Below w.heap.size w w' := by
  obtain ⟨k, h⟩ := P a0 a1 a2 w0 w1 w2
  refine (diacriticlaw13_FrameFlags.calls k a0 a1 a2 true w hG h).mono ?_
  rintro e w' ⟨rfl, hd⟩
  exact ⟨rfl, hd⟩

end Go.Proofs.YtlmhlmendnjmlaaDoor.PAll
