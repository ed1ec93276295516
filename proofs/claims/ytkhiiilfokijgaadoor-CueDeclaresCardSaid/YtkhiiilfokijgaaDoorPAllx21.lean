/- Written by a program of this session: functions of the Go program as Lean functions, and the walks that tie them to it. -/
import Derived.Test.YtkhiiilfokijgaaDoorPAllx0
import Derived.Test.YtkhiiilfokijgaaDoorPAllx11
import Derived.Test.YtkhiiilfokijgaaDoorPAllx13
import Derived.Test.YtkhiiilfokijgaaDoorPAllx17
import Derived.Test.YtkhiiilfokijgaaDoorPAllx19
import Derived.Test.YtkhiiilfokijgaaDoorPAllx20
namespace Go.Proofs.YtkhiiilfokijgaaDoor.PAll
open Go.RowKit Go.Proofs.YtkhiiilfokijgaaDoorW.PrintWords Go.Proofs.YtkhiiilfokijgaaDoorW.PrintLast Go.Proofs.YtkhiiilfokijgaaDoorW.PrintMore
attribute [local go_sem] max2_int min2_int max_two min_two max_three min_three max_four min_four   -- for this text's walks alone
set_option linter.unusedVariables false
set_option linter.unusedSimpArgs false

/-! ### diacriticref23_Declared: function 14 -/
def diacriticref23_Declared.l0 : Nat → List (S44) → Int → Option (ByteArray)
  | 0, _, _ => none
  | k + 1, x3, x4 => if x4 < (x3.length : Int) then (if 0 ≤ x4 then (if (((rd_T44 x3 x4).f0).size : Int) ≥ 12 then (if 0 ≤ 12 then (if 12 ≤ (((rd_T44 x3 x4).f0).size : Int) then (if (((rd_T44 x3 x4).f0).extract 0 12).toList = ([82, 69, 77, 32, 67, 72, 65, 82, 83, 69, 84, 32] : List UInt8) then (some (((rd_T44 x3 x4).f0).extract 12 ((rd_T44 x3 x4).f0).size)) else (diacriticref23_Declared.l0 k x3 (wrap64 (x4 + 1)))) else (none)) else (none)) else (diacriticref23_Declared.l0 k x3 (wrap64 (x4 + 1)))) else (none)) else (some (⟨#[]⟩ : ByteArray))
def diacriticref23_Declared.f (k : Nat) (a0 : ByteArray) : Option (ByteArray) := (diacriticref22_Lines.f k a0).bind fun t373 => (diacriticref23_Declared.l0 k t373 0)
theorem diacriticref23_Declared.mono_l : ∀ k, (∀ y0 y1, LeO (diacriticref23_Declared.l0 k y0 y1) (diacriticref23_Declared.l0 (k + 1) y0 y1))
  | 0 => fun _ _ r h => by simp [diacriticref23_Declared.l0] at h
  | k + 1 => by
    have ih0 := diacriticref23_Declared.mono_l k
    · intro y0 y1
      unfold diacriticref23_Declared.l0
      repeat' first
      | (with_reducible exact ih0 _ _)
      | (with_reducible exact diacriticref22_Lines.mono _ _)
      | (with_reducible exact LeO.refl _)
      | (with_reducible exact LeO.none _)
      | (with_reducible refine LeO.ite ?_ ?_)
      | (with_reducible refine LeO.bind ?_ (fun _ => ?_))
      | exact ih0 _ _
      | exact diacriticref22_Lines.mono _ _
      | exact LeO.none _
      | refine LeO.ite ?_ ?_
      | refine LeO.bind ?_ (fun _ => ?_)
theorem diacriticref23_Declared.mono : ∀ a0 k, LeO (diacriticref23_Declared.f k a0) (diacriticref23_Declared.f (k + 1) a0) := by
  intro a0 k
  have ih0 := diacriticref23_Declared.mono_l k
  unfold diacriticref23_Declared.f
  repeat' first
      | (with_reducible exact ih0 _ _)
      | (with_reducible exact diacriticref22_Lines.mono _ _)
      | (with_reducible exact LeO.refl _)
      | (with_reducible exact LeO.none _)
      | (with_reducible refine LeO.ite ?_ ?_)
      | (with_reducible refine LeO.bind ?_ (fun _ => ?_))
      | exact ih0 _ _
      | exact diacriticref22_Lines.mono _ _
      | exact LeO.none _
      | refine LeO.ite ?_ ?_
      | refine LeO.bind ?_ (fun _ => ?_)
set_option maxHeartbeats 8000000 in
set_option maxRecDepth 100000 in
theorem diacriticref23_Declared.calls (k : Nat) (a0 : ByteArray) (r : ByteArray) (w : World) (h : diacriticref23_Declared.f k a0 = some r) :
    Calls Tryd.prog 14 #[.string a0] w fun e w' => e = .returned (.string r) ∧ Below w.heap.size w w' := by
  have HB := Aside0.mk (Below.refl w.heap.size w)
  have H : ((diacriticref22_Lines.f k a0).bind fun t373 => (diacriticref23_Declared.l0 k t373 0)) = some r := h
  clear h
  replace H := Option.bind_eq_some_iff.mp H
  obtain ⟨t373, A20, H⟩ := H
  replace H : (diacriticref23_Declared.l0 k t373 0) = some r := H
  have A2 := Aside0.mk A20
  clear A20
  have H' := Aside0.mk H
  clear H
  go_enter Tryd.func14, Tryd.ntmps14
  go_wp2_with (first | ((with_reducible refine gate_callee (f := 22) rfl ?_); refine goesL_ (some 7) rfl rfl Tryd.func22 (by kernel_rfl) rfl #[.string a0] rfl q_2 ?_; (with_reducible refine (diacriticref22_Lines.calls k a0 t373 _ A2.out).mono ?_); rintro e w3 ⟨v374, rfl, ho0, hb⟩; refine ⟨_, rfl, ?_⟩; have n0_ := Aside0.mk (Kd.R_lower ho0 (below_size q_1)); have n1_ := Aside0.mk (below_step q_1 hb); clear HB; have HO375 := n0_; have HB := n1_; clear n0_ n1_; (try clear hb); (try clear hb2); (try clear hk); (try clear hi); (try clear ho0)))
  go_loopg [4] k (fun kq v4 w' => ∃ (x4_1 : Int), v4 = .int .i64 x4_1 ∧ Aside0 (diacriticref23_Declared.l0 kq t373 x4_1 = some r) ∧ Aside0 (kq ≤ k) ∧ Aside0 (Kd.R k44 44 w' w.heap.size (fun _ => True) v374 t373) ∧ Aside0 (Below w.heap.size w w'))
  case atStart => exact ⟨(0), q_5, H', ⟨Nat.le_refl _⟩, ⟨by (with_reducible repeat (first | apply Kd.R_alloc | apply Kd.R_drewN | apply Kd.R_drew)); exact HO375.out⟩, ⟨q_1⟩⟩
  case round =>
    clear H'
    try clear c1; try clear c2; try clear p2
    obtain ⟨x4_1, rfl, HA, HK1, HO_3, HB⟩ := hrel
    cases gk with
    | zero => exact absurd HA.out (by simp [diacriticref23_Declared.l0])
    | succ k1 =>
      have H := HA.out
      clear HA
      simp only [diacriticref23_Declared.l0] at H
      by_cases c4 : x4_1 < (t373.length : Int)
      · rw [if_pos c4] at H
        have c4b0 : decide (x4_1 < (t373.length : Int)) = true := decide_eq_true c4
        clear c4
        by_cases c5 : 0 ≤ x4_1
        · rw [if_pos c5] at H
          have c5b0 : decide (0 ≤ x4_1) = true := decide_eq_true c5
          clear c5
          by_cases c6 : (((rd_T44 t373 x4_1).f0).size : Int) ≥ 12
          · rw [if_pos c6] at H
            have c6b0 : decide (12 ≤ (((rd_T44 t373 x4_1).f0).size : Int)) = true := decide_eq_true c6
            have c6b1 : decide (12 ≤ ((rd_T44 t373 x4_1).f0).size) = true := decide_eq_true (by omega)
            clear c6
            by_cases c7 : 0 ≤ 12
            · rw [if_pos c7] at H
              have c7b0 := eq_true c7
              have c7b1 : decide (0 ≤ 12) = true := decide_eq_true c7
              clear c7
              by_cases c8 : 12 ≤ (((rd_T44 t373 x4_1).f0).size : Int)
              · rw [if_pos c8] at H
                have c8b0 := eq_true c8
                have c8b1 : decide (12 ≤ (((rd_T44 t373 x4_1).f0).size : Int)) = true := decide_eq_true c8
                clear c8
                by_cases c9 : (((rd_T44 t373 x4_1).f0).extract 0 12).toList = ([82, 69, 77, 32, 67, 72, 65, 82, 83, 69, 84, 32] : List UInt8)
                · rw [if_pos c9] at H
                  have c9b0 : ((((rd_T44 t373 x4_1).f0).extract 0 12).toList == ([82, 69, 77, 32, 67, 72, 65, 82, 83, 69, 84, 32] : List UInt8)) = true := beq_iff_eq.mpr c9
                  have c9b1 : ((((rd_T44 t373 x4_1).f0).extract 0 12).toList != ([82, 69, 77, 32, 67, 72, 65, 82, 83, 69, 84, 32] : List UInt8)) = false := bne_eq_false_iff_eq.mpr c9
                  clear c9
                  have c10b0 := eq_true (of_decide_eq_true q_6 : 12 ≤ (((rd_T44 t373 x4_1).f0).size : Int))
                  obtain rfl := Option.some.inj H
                  obtain ⟨Ao11, co11, eo11⟩ := Kd.R_slice HO_3.out
                  subst eo11
                  have p376 : 0 ≤ (x4_1 : Int) := of_decide_eq_true q_6
                  have q376 : x4_1 < (t373.length : Int) := of_decide_eq_true q_6
                  obtain ⟨ad376, e376, hx376_0, hx376_1, hx376_2⟩ := at_T44 (Kd.R_reads' HO_3.out).2.2 x4_1 p376 q376
                  cases e376
                  replace p376 := eq_true p376
                  replace q376 := eq_true q376
                  go_wp2
                  go_ret
                  exact ⟨q_10, q_1⟩
                · rw [if_neg c9] at H
                  have c9b0 : ((((rd_T44 t373 x4_1).f0).extract 0 12).toList == ([82, 69, 77, 32, 67, 72, 65, 82, 83, 69, 84, 32] : List UInt8)) = false := beq_eq_false_iff_ne.mpr c9
                  have c9b1 : ((((rd_T44 t373 x4_1).f0).extract 0 12).toList != ([82, 69, 77, 32, 67, 72, 65, 82, 83, 69, 84, 32] : List UInt8)) = true := bne_iff_ne.mpr c9
                  have H' := Aside0.mk H
                  clear H
                  obtain ⟨Ao12, co12, eo12⟩ := Kd.R_slice HO_3.out
                  subst eo12
                  have p376 : 0 ≤ (x4_1 : Int) := of_decide_eq_true q_6
                  have q376 : x4_1 < (t373.length : Int) := of_decide_eq_true q_6
                  obtain ⟨ad376, e376, hx376_0, hx376_1, hx376_2⟩ := at_T44 (Kd.R_reads' HO_3.out).2.2 x4_1 p376 q376
                  cases e376
                  replace p376 := eq_true p376
                  replace q376 := eq_true q376
                  go_wp2
                  go_roundg k1
                  case measure => have := HK1.out; omega
                  case rel => exact ⟨(wrap64 (x4_1 + 1)), q_5, H', ⟨by have := HK1.out; omega⟩, ⟨q_31⟩, ⟨q_1⟩⟩
              · rw [if_neg c8] at H
                exact absurd H (by simp)
            · rw [if_neg c7] at H
              exact absurd H (by simp)
          · rw [if_neg c6] at H
            have c6b0 : decide (12 ≤ (((rd_T44 t373 x4_1).f0).size : Int)) = false := decide_eq_false c6
            have c6b1 : decide (12 ≤ ((rd_T44 t373 x4_1).f0).size) = false := decide_eq_false (by omega)
            clear c6
            have H' := Aside0.mk H
            clear H
            obtain ⟨Ao13, co13, eo13⟩ := Kd.R_slice HO_3.out
            subst eo13
            have p376 : 0 ≤ (x4_1 : Int) := of_decide_eq_true q_6
            have q376 : x4_1 < (t373.length : Int) := of_decide_eq_true q_6
            obtain ⟨ad376, e376, hx376_0, hx376_1, hx376_2⟩ := at_T44 (Kd.R_reads' HO_3.out).2.2 x4_1 p376 q376
            cases e376
            replace p376 := eq_true p376
            replace q376 := eq_true q376
            go_wp2
            go_roundg k1
            case measure => have := HK1.out; omega
            case rel => exact ⟨(wrap64 (x4_1 + 1)), q_5, H', ⟨by have := HK1.out; omega⟩, ⟨q_31⟩, ⟨q_1⟩⟩
        · rw [if_neg c5] at H
          exact absurd H (by simp)
      · rw [if_neg c4] at H
        have c4b0 : decide (x4_1 < (t373.length : Int)) = false := decide_eq_false c4
        clear c4
        obtain rfl := Option.some.inj H
        obtain ⟨Ao14, co14, eo14⟩ := Kd.R_slice HO_3.out
        subst eo14
        go_wp2
        go_ret
        exact ⟨q_10, q_1⟩

/-! ### diacriticlaw23_CueDeclares: function 4 -/
def diacriticlaw23_CueDeclares.f (k : Nat) (a0 : ByteArray) : Option (Bool) := if (a0.size : Int) > 2000 then ((diacriticlaw23_awake.f k).bind fun t377 => (if t377 = true then (some true) else (if (a0.size : Int) ≤ 2000 then ((cue_Declared.f k a0).bind fun t378 => ((diacriticref23_Declared.f k a0).bind fun t379 => (if t378.toList = t379.toList then ((diacriticlaw23_awake.f k).bind fun t380 => (some t380)) else (some false)))) else (some false)))) else (if (a0.size : Int) ≤ 2000 then ((cue_Declared.f k a0).bind fun t381 => ((diacriticref23_Declared.f k a0).bind fun t382 => (if t381.toList = t382.toList then ((diacriticlaw23_awake.f k).bind fun t383 => (some t383)) else (some false)))) else (some false))
theorem diacriticlaw23_CueDeclares.mono : ∀ a0 k, LeO (diacriticlaw23_CueDeclares.f k a0) (diacriticlaw23_CueDeclares.f (k + 1) a0) := by
  intro a0 k
  unfold diacriticlaw23_CueDeclares.f
  repeat' first
      | (with_reducible exact cue_Declared.mono _ _)
      | (with_reducible exact diacriticlaw23_awake.mono _)
      | (with_reducible exact diacriticref23_Declared.mono _ _)
      | (with_reducible exact LeO.refl _)
      | (with_reducible exact LeO.none _)
      | (with_reducible refine LeO.ite ?_ ?_)
      | (with_reducible refine LeO.bind ?_ (fun _ => ?_))
      | exact cue_Declared.mono _ _
      | exact diacriticlaw23_awake.mono _
      | exact diacriticref23_Declared.mono _ _
      | exact LeO.none _
      | refine LeO.ite ?_ ?_
      | refine LeO.bind ?_ (fun _ => ?_)
set_option maxHeartbeats 8000000 in
set_option maxRecDepth 100000 in
theorem diacriticlaw23_CueDeclares.calls (k : Nat) (a0 : ByteArray) (r : Bool) (w : World) (hG : GM w) (h : diacriticlaw23_CueDeclares.f k a0 = some r) :
    Calls Tryd.prog 4 #[.string a0] w fun e w' => e = .returned (.bool r) ∧ Below w.heap.size w w' := by
  have HB := Aside0.mk (Below.refl w.heap.size w)
  have HG := Aside0.mk hG
  clear hG
  have H : (if (a0.size : Int) > 2000 then ((diacriticlaw23_awake.f k).bind fun t377 => (if t377 = true then (some true) else (if (a0.size : Int) ≤ 2000 then ((cue_Declared.f k a0).bind fun t378 => ((diacriticref23_Declared.f k a0).bind fun t379 => (if t378.toList = t379.toList then ((diacriticlaw23_awake.f k).bind fun t380 => (some t380)) else (some false)))) else (some false)))) else (if (a0.size : Int) ≤ 2000 then ((cue_Declared.f k a0).bind fun t381 => ((diacriticref23_Declared.f k a0).bind fun t382 => (if t381.toList = t382.toList then ((diacriticlaw23_awake.f k).bind fun t383 => (some t383)) else (some false)))) else (some false))) = some r := h
  clear h
  by_cases c2 : (a0.size : Int) > 2000
  · rw [if_pos c2] at H
    have c2b0 : decide (2000 < (a0.size : Int)) = true := decide_eq_true c2
    have c2b1 : decide (2000 < a0.size) = true := decide_eq_true (by omega)
    clear c2
    replace H := Option.bind_eq_some_iff.mp H
    obtain ⟨t377, A30, H⟩ := H
    replace H : (if t377 = true then (some true) else (if (a0.size : Int) ≤ 2000 then ((cue_Declared.f k a0).bind fun t378 => ((diacriticref23_Declared.f k a0).bind fun t379 => (if t378.toList = t379.toList then ((diacriticlaw23_awake.f k).bind fun t380 => (some t380)) else (some false)))) else (some false))) = some r := H
    have A3 := Aside0.mk A30
    clear A30
    by_cases c4 : t377 = true
    · subst c4
      have H1 : (some true) = some r := by rw [if_pos rfl] at H; exact H
      clear H
      have H := H1
      clear H1
      obtain rfl := Option.some.inj H
      go_enter Tryd.func4, Tryd.ntmps4
      go_wp2_with (first | (go_at_call 9; (with_reducible refine (diacriticlaw23_awake.calls k  true _ (GM.below HG.out q_1) A3.out).mono ?_); rintro e w5 ⟨rfl, hb⟩; have n0_ := Aside0.mk (below_step q_1 hb); clear HB; have HB := n0_; clear n0_; (try clear hb); (try clear hb2); (try clear hk); (try clear hi)))
      go_ret
      exact ⟨q_10, q_1⟩
    · replace c4 := Bool.eq_false_iff.mpr c4
      subst c4
      have H1 : (if (a0.size : Int) ≤ 2000 then ((cue_Declared.f k a0).bind fun t378 => ((diacriticref23_Declared.f k a0).bind fun t379 => (if t378.toList = t379.toList then ((diacriticlaw23_awake.f k).bind fun t380 => (some t380)) else (some false)))) else (some false)) = some r := by rw [if_neg (show ¬ (false = true) by decide)] at H; exact H
      clear H
      have H := H1
      clear H1
      by_cases c6 : (a0.size : Int) ≤ 2000
      · exact absurd c6 (by have := of_decide_eq_true c2b0; omega)
      · rw [if_neg c6] at H
        have c6b0 : decide ((a0.size : Int) ≤ 2000) = false := decide_eq_false c6
        have c6b1 : decide (a0.size ≤ 2000) = false := decide_eq_false (by omega)
        clear c6
        obtain rfl := Option.some.inj H
        go_enter Tryd.func4, Tryd.ntmps4
        go_wp2_with (first | (go_at_call 9; (with_reducible refine (diacriticlaw23_awake.calls k  false _ (GM.below HG.out q_1) A3.out).mono ?_); rintro e w18 ⟨rfl, hb⟩; have n0_ := Aside0.mk (below_step q_1 hb); clear HB; have HB := n0_; clear n0_; (try clear hb); (try clear hb2); (try clear hk); (try clear hi)))
        go_ret
        exact ⟨q_10, q_1⟩
  · rw [if_neg c2] at H
    have c2b0 : decide (2000 < (a0.size : Int)) = false := decide_eq_false c2
    have c2b1 : decide (2000 < a0.size) = false := decide_eq_false (by omega)
    clear c2
    by_cases c19 : (a0.size : Int) ≤ 2000
    · rw [if_pos c19] at H
      have c19b0 : decide ((a0.size : Int) ≤ 2000) = true := decide_eq_true c19
      have c19b1 : decide (a0.size ≤ 2000) = true := decide_eq_true (by omega)
      clear c19
      replace H := Option.bind_eq_some_iff.mp H
      obtain ⟨t381, A200, H⟩ := H
      replace H : ((diacriticref23_Declared.f k a0).bind fun t382 => (if t381.toList = t382.toList then ((diacriticlaw23_awake.f k).bind fun t383 => (some t383)) else (some false))) = some r := H
      have A20 := Aside0.mk A200
      clear A200
      replace H := Option.bind_eq_some_iff.mp H
      obtain ⟨t382, A210, H⟩ := H
      replace H : (if t381.toList = t382.toList then ((diacriticlaw23_awake.f k).bind fun t383 => (some t383)) else (some false)) = some r := H
      have A21 := Aside0.mk A210
      clear A210
      by_cases c22 : t381.toList = t382.toList
      · rw [if_pos c22] at H
        have c22b0 : (t381.toList == t382.toList) = true := beq_iff_eq.mpr c22
        have c22b1 : (t381.toList != t382.toList) = false := bne_eq_false_iff_eq.mpr c22
        clear c22
        replace H := Option.bind_eq_some_iff.mp H
        obtain ⟨t383, A230, H⟩ := H
        replace H : (some t383) = some r := H
        have A23 := Aside0.mk A230
        clear A230
        obtain rfl := Option.some.inj H
        go_enter Tryd.func4, Tryd.ntmps4
        go_wp2_with (first | (go_at_call 13; (with_reducible refine (cue_Declared.calls k a0 t381 _ A20.out).mono ?_); rintro e w24 ⟨rfl, hb⟩; have n0_ := Aside0.mk (below_step q_1 hb); clear HB; have HB := n0_; clear n0_; (try clear hb); (try clear hb2); (try clear hk); (try clear hi)) | (go_at_call 14; (with_reducible refine (diacriticref23_Declared.calls k a0 t382 _ A21.out).mono ?_); rintro e w25 ⟨rfl, hb⟩; have n0_ := Aside0.mk (below_step q_1 hb); clear HB; have HB := n0_; clear n0_; (try clear hb); (try clear hb2); (try clear hk); (try clear hi)) | (go_at_call 9; (with_reducible refine (diacriticlaw23_awake.calls k  t383 _ (GM.below HG.out q_1) A23.out).mono ?_); rintro e w26 ⟨rfl, hb⟩; have n0_ := Aside0.mk (below_step q_1 hb); clear HB; have HB := n0_; clear n0_; (try clear hb); (try clear hb2); (try clear hk); (try clear hi)))
        go_ret
        exact ⟨q_10, q_1⟩
      · rw [if_neg c22] at H
        have c22b0 : (t381.toList == t382.toList) = false := beq_eq_false_iff_ne.mpr c22
        have c22b1 : (t381.toList != t382.toList) = true := bne_iff_ne.mpr c22
        obtain rfl := Option.some.inj H
        go_enter Tryd.func4, Tryd.ntmps4
        go_wp2_with (first | (go_at_call 13; (with_reducible refine (cue_Declared.calls k a0 t381 _ A20.out).mono ?_); rintro e w27 ⟨rfl, hb⟩; have n0_ := Aside0.mk (below_step q_1 hb); clear HB; have HB := n0_; clear n0_; (try clear hb); (try clear hb2); (try clear hk); (try clear hi)) | (go_at_call 14; (with_reducible refine (diacriticref23_Declared.calls k a0 t382 _ A21.out).mono ?_); rintro e w28 ⟨rfl, hb⟩; have n0_ := Aside0.mk (below_step q_1 hb); clear HB; have HB := n0_; clear n0_; (try clear hb); (try clear hb2); (try clear hk); (try clear hi)))
        go_ret
        exact ⟨q_10, q_1⟩
    · rw [if_neg c19] at H
      have c19b0 : decide ((a0.size : Int) ≤ 2000) = false := decide_eq_false c19
      have c19b1 : decide (a0.size ≤ 2000) = false := decide_eq_false (by omega)
      clear c19
      obtain rfl := Option.some.inj H
      go_enter Tryd.func4, Tryd.ntmps4
      go_wp2
      go_ret
      exact ⟨q_10, q_1⟩

/-- THE ONE PURE STATEMENT of diacriticlaw23_CueDeclares: yours. -/
def diacriticlaw23_CueDeclares.Pure : Prop := ∀ (a0 : ByteArray), a0.size ≤ 140737488351232 → ∃ k, diacriticlaw23_CueDeclares.f k a0 = some true
theorem diacriticlaw23_CueDeclares.walk (P : diacriticlaw23_CueDeclares.Pure) (a0 : ByteArray) (w : World) (w0 : a0.size ≤ 140737488351232) (hG : GM w) :
    Calls Tryd.prog 4 #[.string a0] w fun e w' => e = .returned (.bool true) ∧ Below w.heap.size w w' := by
  obtain ⟨k, h⟩ := P a0 w0
  refine (diacriticlaw23_CueDeclares.calls k a0 true w hG h).mono ?_
  rintro e w' ⟨rfl, hd⟩
  exact ⟨rfl, hd⟩

-- NOT PRINTED: function 16 (ssa_Parse)

/-! ### ssa_Declared: function 20 -/
def ssa_Declared.l0 : Nat → List (S53) → Int → Int → Option (ByteArray)
  | 0, _, _, _ => none
  | k + 1, x8, x9, x10 => if x10 < x9 then (if 0 ≤ x10 then (if x10 < (x8.length : Int) then ((strings_CutPrefix.f ((rd_T53 x8 x10).f0) (⟨#[67, 104, 97, 114, 115, 101, 116, 58, 32]⟩ : ByteArray)).bind fun bt391 => (if bt391.2 = true then (some bt391.1) else (ssa_Declared.l0 k x8 x9 (wrap64 (x10 + 1))))) else (none)) else (none)) else (some (⟨#[]⟩ : ByteArray))
def ssa_Declared.f (k : Nat) (a0 : ByteArray) : Option (ByteArray) := (line_Lines.f k a0).bind fun t386 => (ssa_Declared.l0 k t386 (t386.length : Int) 0)
theorem ssa_Declared.mono_l : ∀ k, (∀ y0 y1 y2, LeO (ssa_Declared.l0 k y0 y1 y2) (ssa_Declared.l0 (k + 1) y0 y1 y2))
  | 0 => fun _ _ _ r h => by simp [ssa_Declared.l0] at h
  | k + 1 => by
    have ih0 := ssa_Declared.mono_l k
    · intro y0 y1 y2
      unfold ssa_Declared.l0
      repeat' first
      | (with_reducible exact ih0 _ _ _)
      | (with_reducible exact line_Lines.mono _ _)
      | (with_reducible exact LeO.refl _)
      | (with_reducible exact LeO.none _)
      | (with_reducible refine LeO.ite ?_ ?_)
      | (with_reducible refine LeO.bind ?_ (fun _ => ?_))
      | exact ih0 _ _ _
      | exact line_Lines.mono _ _
      | exact LeO.none _
      | refine LeO.ite ?_ ?_
      | refine LeO.bind ?_ (fun _ => ?_)
theorem ssa_Declared.mono : ∀ a0 k, LeO (ssa_Declared.f k a0) (ssa_Declared.f (k + 1) a0) := by
  intro a0 k
  have ih0 := ssa_Declared.mono_l k
  unfold ssa_Declared.f
  repeat' first
      | (with_reducible exact ih0 _ _ _)
      | (with_reducible exact line_Lines.mono _ _)
      | (with_reducible exact LeO.refl _)
      | (with_reducible exact LeO.none _)
      | (with_reducible refine LeO.ite ?_ ?_)
      | (with_reducible refine LeO.bind ?_ (fun _ => ?_))
      | exact ih0 _ _ _
      | exact line_Lines.mono _ _
      | exact LeO.none _
      | refine LeO.ite ?_ ?_
      | refine LeO.bind ?_ (fun _ => ?_)
set_option maxHeartbeats 8000000 in
set_option maxRecDepth 100000 in
theorem ssa_Declared.calls (k : Nat) (a0 : ByteArray) (r : ByteArray) (w : World) (h : ssa_Declared.f k a0 = some r) :
    Calls Tryd.prog 20 #[.string a0] w fun e w' => e = .returned (.string r) ∧ Below w.heap.size w w' := by
  have hu53 := Tryd.underlying53
  have HB := Aside0.mk (Below.refl w.heap.size w)
  have H : ((line_Lines.f k a0).bind fun t386 => (ssa_Declared.l0 k t386 (t386.length : Int) 0)) = some r := h
  clear h
  replace H := Option.bind_eq_some_iff.mp H
  obtain ⟨t386, A20, H⟩ := H
  replace H : (ssa_Declared.l0 k t386 (t386.length : Int) 0) = some r := H
  have A2 := Aside0.mk A20
  clear A20
  have H' := Aside0.mk H
  clear H
  go_enter Tryd.func20, Tryd.ntmps20
  go_wp2_with (first | ((with_reducible refine gate_callee (f := 29) rfl ?_); refine goesL_ (some 8) rfl rfl Tryd.func29 (by kernel_rfl) rfl #[.string a0] rfl q_2 ?_; (with_reducible refine (line_Lines.calls k a0 t386 _ A2.out).mono ?_); rintro e w3 ⟨v387, rfl, ho0, hb⟩; refine ⟨_, rfl, ?_⟩; have n0_ := Aside0.mk (Kd.R_lower ho0 (below_size q_1)); have n1_ := Aside0.mk (below_step q_1 hb); clear HB; have HO388 := n0_; have HB := n1_; clear n0_ n1_; (try clear hb); (try clear hb2); (try clear hk); (try clear hi); (try clear ho0); obtain ⟨Ao4, co4, eo4⟩ := Kd.R_slice HO388.out; subst eo4))
  go_loopg [10] k (fun kq v10 w' => ∃ (x10_1 : Int), v10 = .int .i64 x10_1 ∧ Aside0 (ssa_Declared.l0 kq t386 (t386.length : Int) x10_1 = some r) ∧ Aside0 (kq ≤ k) ∧ Aside0 (Kd.R k53 53 w' w.heap.size (fun _ => True) (.slice Ao4 t386.length co4) t386) ∧ Aside0 (Below w.heap.size w w'))
  case atStart => exact ⟨(0), q_5, H', ⟨Nat.le_refl _⟩, ⟨by (with_reducible repeat (first | apply Kd.R_alloc | apply Kd.R_drewN | apply Kd.R_drew)); exact HO388.out⟩, ⟨q_1⟩⟩
  case round =>
    clear H'
    try clear c2; try clear p2
    obtain ⟨x10_1, rfl, HA, HK1, HO_8, HB⟩ := hrel
    cases gk with
    | zero => exact absurd HA.out (by simp [ssa_Declared.l0])
    | succ k1 =>
      have H := HA.out
      clear HA
      simp only [ssa_Declared.l0] at H
      by_cases c5 : x10_1 < (t386.length : Int)
      · rw [if_pos c5] at H
        have c5b0 : decide (x10_1 < (t386.length : Int)) = true := decide_eq_true c5
        clear c5
        by_cases c6 : 0 ≤ x10_1
        · rw [if_pos c6] at H
          have c6b0 : decide (0 ≤ x10_1) = true := decide_eq_true c6
          clear c6
          by_cases c7 : x10_1 < (t386.length : Int)
          · rw [if_pos c7] at H
            have c7b0 : decide (x10_1 < (t386.length : Int)) = true := decide_eq_true c7
            clear c7
            replace H := Option.bind_eq_some_iff.mp H
            obtain ⟨⟨t391, t392⟩, A80, H⟩ := H
            replace H : (if t392 = true then (some t391) else (ssa_Declared.l0 k1 t386 (t386.length : Int) (wrap64 (x10_1 + 1)))) = some r := H
            have A8 := Aside0.mk A80
            clear A80
            by_cases c9 : t392 = true
            · subst c9
              have H1 : (some t391) = some r := by rw [if_pos rfl] at H; exact H
              clear H
              have H := H1
              clear H1
              obtain rfl := Option.some.inj H
              have p389 : 0 ≤ (x10_1 : Int) := of_decide_eq_true q_6
              have q389 : x10_1 < (t386.length : Int) := of_decide_eq_true q_6
              obtain ⟨ad389, e389, hx389_0, hx389_1, hx389_2⟩ := at_T53 (Kd.R_reads' HO_8.out).2.2 x10_1 p389 q389
              cases e389
              replace p389 := eq_true p389
              replace q389 := eq_true q389
              go_wp2_with (first | ((with_reducible refine gate_dst (N := 4) rfl ?_); refine box_event ?hg (N := 4) ?hd (cs := #[.string (⟨#[]⟩ : ByteArray), .string (⟨#[]⟩ : ByteArray), .int .i64 0]) (t := 53) ?hr ?_; (case hd => rfl); (case hg => rfl); (case hr => first | (go_simp; done) | (go_simp; rfl)); intro gb390 hg w10 hbox hb; have n0_ := Aside0.mk (Kd.R_below (Kd.R_elderB q_68 gb390 (Nat.le_of_eq hg.symm)) hb); have n1_ := Aside0.mk (below_step q_1 hb); have n2_ := Aside0.mk (hbox); have n3_ := Aside0.mk ((by rw [hg]; exact (below_size q_1) : w.heap.size ≤ gb390)); have n4_ := Aside0.mk ((by rw [hg]; exact (below_size q_1) : w.heap.size ≤ gb390)); clear HO_8; clear HB; have HO_8 := n0_; have HB := n1_; have BK390 := n2_; have GW390 := n3_; have GE390 := n4_; clear n0_ n1_ n2_ n3_ n4_; clear hb hbox hg; obtain ⟨hcz11_0, hcz11_1, hcz11_2, hfz11_0, hfz11_1, hfz11_2⟩ := cells3_ BK390.out) | ((with_reducible refine gate_callee (f := 30) rfl ?_); refine goesL_ (some 17) rfl rfl Tryd.func30 (by kernel_rfl) rfl #[.string ((rd_T53 t386 x10_1).f0), .string (⟨#[67, 104, 97, 114, 115, 101, 116, 58, 32]⟩ : ByteArray)] rfl q_2 ?_; (with_reducible refine (strings_CutPrefix.calls ((rd_T53 t386 x10_1).f0) (⟨#[67, 104, 97, 114, 115, 101, 116, 58, 32]⟩ : ByteArray) t391 true _ A8.out).mono ?_); rintro e w' ⟨rfl, ⟨nd, rfl⟩⟩; refine ⟨_, rfl, ?_⟩))
              go_ret
              exact ⟨q_10, by repeat (first | (with_reducible first | exact HB.out | apply below_alloc | apply pw_below_drewN | apply below_drew1 | refine below_set ?_ GE390.out) | exact HB.out)⟩
            · replace c9 := Bool.eq_false_iff.mpr c9
              subst c9
              have H1 : (ssa_Declared.l0 k1 t386 (t386.length : Int) (wrap64 (x10_1 + 1))) = some r := by rw [if_neg (show ¬ (false = true) by decide)] at H; exact H
              clear H
              have H := H1
              clear H1
              have H' := Aside0.mk H
              clear H
              have p389 : 0 ≤ (x10_1 : Int) := of_decide_eq_true q_6
              have q389 : x10_1 < (t386.length : Int) := of_decide_eq_true q_6
              obtain ⟨ad389, e389, hx389_0, hx389_1, hx389_2⟩ := at_T53 (Kd.R_reads' HO_8.out).2.2 x10_1 p389 q389
              cases e389
              replace p389 := eq_true p389
              replace q389 := eq_true q389
              go_wp2_with (first | ((with_reducible refine gate_dst (N := 4) rfl ?_); refine box_event ?hg (N := 4) ?hd (cs := #[.string (⟨#[]⟩ : ByteArray), .string (⟨#[]⟩ : ByteArray), .int .i64 0]) (t := 53) ?hr ?_; (case hd => rfl); (case hg => rfl); (case hr => first | (go_simp; done) | (go_simp; rfl)); intro gb390 hg w12 hbox hb; have n0_ := Aside0.mk (Kd.R_below (Kd.R_elderB q_68 gb390 (Nat.le_of_eq hg.symm)) hb); have n1_ := Aside0.mk (below_step q_1 hb); have n2_ := Aside0.mk (hbox); have n3_ := Aside0.mk ((by rw [hg]; exact (below_size q_1) : w.heap.size ≤ gb390)); have n4_ := Aside0.mk ((by rw [hg]; exact (below_size q_1) : w.heap.size ≤ gb390)); clear HO_8; clear HB; have HO_8 := n0_; have HB := n1_; have BK390 := n2_; have GW390 := n3_; have GE390 := n4_; clear n0_ n1_ n2_ n3_ n4_; clear hb hbox hg; obtain ⟨hcz13_0, hcz13_1, hcz13_2, hfz13_0, hfz13_1, hfz13_2⟩ := cells3_ BK390.out) | ((with_reducible refine gate_callee (f := 30) rfl ?_); refine goesL_ (some 17) rfl rfl Tryd.func30 (by kernel_rfl) rfl #[.string ((rd_T53 t386 x10_1).f0), .string (⟨#[67, 104, 97, 114, 115, 101, 116, 58, 32]⟩ : ByteArray)] rfl q_2 ?_; (with_reducible refine (strings_CutPrefix.calls ((rd_T53 t386 x10_1).f0) (⟨#[67, 104, 97, 114, 115, 101, 116, 58, 32]⟩ : ByteArray) t391 false _ A8.out).mono ?_); rintro e w' ⟨rfl, ⟨nd, rfl⟩⟩; refine ⟨_, rfl, ?_⟩))
              go_roundg k1
              case measure => have := HK1.out; omega
              case rel => exact ⟨(wrap64 (x10_1 + 1)), q_5, H', ⟨by have := HK1.out; omega⟩, ⟨by (with_reducible repeat (first | apply Kd.R_alloc | apply Kd.R_drewN | apply Kd.R_drew)); exact Kd.R_mono (Kd.R_far (p := ⟨gb390, 2, none⟩) (Kd.R_far (p := ⟨gb390, 1, none⟩) (Kd.R_far (p := ⟨gb390, 0, none⟩) (Kd.R_mono HO_8.out (fun k_ hk => (⟨hk, hk.2⟩ : _ ∧ k_ ≠ gb390))) (fun _ hk => hk.2) (.string ((rd_T53 t386 x10_1).f0))) (fun _ hk => hk.2) (.string ((rd_T53 t386 x10_1).f1))) (fun _ hk => hk.2) (.int .i64 ((rd_T53 t386 x10_1).f2))) (fun _ hk => trivial)⟩, ⟨by repeat (first | (with_reducible first | exact HB.out | apply below_alloc | apply pw_below_drewN | apply below_drew1 | refine below_set ?_ GE390.out) | exact HB.out)⟩⟩
          · rw [if_neg c7] at H
            exact absurd H (by simp)
        · rw [if_neg c6] at H
          exact absurd H (by simp)
      · rw [if_neg c5] at H
        have c5b0 : decide (x10_1 < (t386.length : Int)) = false := decide_eq_false c5
        clear c5
        obtain rfl := Option.some.inj H
        go_wp2
        go_ret
        exact ⟨q_10, q_1⟩

-- NOT PRINTED: function 31 (diacriticlaw25_Awake)

-- NOT PRINTED: function 15 (diacriticlaw25_awake)

end Go.Proofs.YtkhiiilfokijgaaDoor.PAll
