/- Written by a program of this session: functions of the Go program as Lean functions, and the walks that tie them to it. -/
import Derived.Test.YtkhiiilfokijgaaDoorPAllx0
namespace Go.Proofs.YtkhiiilfokijgaaDoor.PAll
open Go.RowKit Go.Proofs.YtkhiiilfokijgaaDoorW.PrintWords Go.Proofs.YtkhiiilfokijgaaDoorW.PrintLast Go.Proofs.YtkhiiilfokijgaaDoorW.PrintMore
attribute [local go_sem] max2_int min2_int max_two min_two max_three min_three max_four min_four   -- for this text's walks alone
set_option linter.unusedVariables false
set_option linter.unusedSimpArgs false

/-! ### strings_HasPrefix: function 68 -/
def strings_HasPrefix.f (a0 : ByteArray) (a1 : ByteArray) : Option (Bool) := some (Lib.hasPrefix a0.data.toList a1.data.toList)
theorem strings_HasPrefix.calls (a0 : ByteArray) (a1 : ByteArray) (r : Bool) (w : World) (h : strings_HasPrefix.f a0 a1 = some r) :
    Calls Tryd.prog 68 #[.string a0, .string a1] w fun e w' => e = .returned (.bool r) ∧ Drawn0 w w' := by
  obtain rfl := Option.some.inj h
  exact (Tryd.strings_HasPrefix a0 a1 w).mono fun e w' ⟨he, hw⟩ => ⟨he, hw ▸ Drawn0.refl _⟩


/-! ### line_end: function 49 -/
def line_end.f (a0 : ByteArray) (a1 : Int) : Option (ByteArray) := if 0 ≤ a1 then (if a1 ≤ (a0.size : Int) then ((strings_HasPrefix.f (a0.extract (a1 : Int).toNat a0.size) (⟨#[13, 10]⟩ : ByteArray)).bind fun t212 => (if t212 = true then (some (⟨#[13, 10]⟩ : ByteArray)) else (if a1 < (a0.size : Int) then (if (bt a0 a1) = 10 then (if a1 ≤ (wrap64 (a1 + 1)) then (if (wrap64 (a1 + 1)) ≤ (a0.size : Int) then (some (a0.extract (a1 : Int).toNat ((wrap64 (a1 + 1)) : Int).toNat)) else (none)) else (none)) else (if (bt a0 a1) = 13 then (if a1 ≤ (wrap64 (a1 + 1)) then (if (wrap64 (a1 + 1)) ≤ (a0.size : Int) then (some (a0.extract (a1 : Int).toNat ((wrap64 (a1 + 1)) : Int).toNat)) else (none)) else (none)) else (some (⟨#[]⟩ : ByteArray)))) else (none)))) else (none)) else (none)
set_option maxHeartbeats 8000000 in
set_option maxRecDepth 100000 in
theorem line_end.calls (a0 : ByteArray) (a1 : Int) (r : ByteArray) (w : World) (h : line_end.f a0 a1 = some r) :
    Calls Tryd.prog 49 #[.string a0, .int .i64 a1] w fun e w' => e = .returned (.string r) ∧ Drawn0 w w' := by
  have H : (if 0 ≤ a1 then (if a1 ≤ (a0.size : Int) then ((strings_HasPrefix.f (a0.extract (a1 : Int).toNat a0.size) (⟨#[13, 10]⟩ : ByteArray)).bind fun t212 => (if t212 = true then (some (⟨#[13, 10]⟩ : ByteArray)) else (if a1 < (a0.size : Int) then (if (bt a0 a1) = 10 then (if a1 ≤ (wrap64 (a1 + 1)) then (if (wrap64 (a1 + 1)) ≤ (a0.size : Int) then (some (a0.extract (a1 : Int).toNat ((wrap64 (a1 + 1)) : Int).toNat)) else (none)) else (none)) else (if (bt a0 a1) = 13 then (if a1 ≤ (wrap64 (a1 + 1)) then (if (wrap64 (a1 + 1)) ≤ (a0.size : Int) then (some (a0.extract (a1 : Int).toNat ((wrap64 (a1 + 1)) : Int).toNat)) else (none)) else (none)) else (some (⟨#[]⟩ : ByteArray)))) else (none)))) else (none)) else (none)) = some r := h
  clear h
  by_cases c3 : 0 ≤ a1
  · rw [if_pos c3] at H
    have c3b0 := eq_true c3
    have c3b1 : decide (0 ≤ a1) = true := decide_eq_true c3
    clear c3
    by_cases c4 : a1 ≤ (a0.size : Int)
    · rw [if_pos c4] at H
      have c4b0 := eq_true c4
      have c4b1 : decide (a1 ≤ (a0.size : Int)) = true := decide_eq_true c4
      clear c4
      replace H := Option.bind_eq_some_iff.mp H
      obtain ⟨t212, A50, H⟩ := H
      replace H : (if t212 = true then (some (⟨#[13, 10]⟩ : ByteArray)) else (if a1 < (a0.size : Int) then (if (bt a0 a1) = 10 then (if a1 ≤ (wrap64 (a1 + 1)) then (if (wrap64 (a1 + 1)) ≤ (a0.size : Int) then (some (a0.extract (a1 : Int).toNat ((wrap64 (a1 + 1)) : Int).toNat)) else (none)) else (none)) else (if (bt a0 a1) = 13 then (if a1 ≤ (wrap64 (a1 + 1)) then (if (wrap64 (a1 + 1)) ≤ (a0.size : Int) then (some (a0.extract (a1 : Int).toNat ((wrap64 (a1 + 1)) : Int).toNat)) else (none)) else (none)) else (some (⟨#[]⟩ : ByteArray)))) else (none))) = some r := H
      have A5 := Aside0.mk A50
      clear A50
      by_cases c6 : t212 = true
      · subst c6
        have H1 : (some (⟨#[13, 10]⟩ : ByteArray)) = some r := by rw [if_pos rfl] at H; exact H
        clear H
        have H := H1
        clear H1
        obtain rfl := Option.some.inj H
        go_enter Tryd.func49, Tryd.ntmps49
        go_wp2_with (first | ((with_reducible refine gate_callee (f := 68) rfl ?_); refine goesL_ (some 9) rfl rfl Tryd.func68 (by kernel_rfl) rfl #[.string (a0.extract (a1 : Int).toNat a0.size), .string (⟨#[13, 10]⟩ : ByteArray)] rfl q_2 ?_; (with_reducible refine (strings_HasPrefix.calls (a0.extract (a1 : Int).toNat a0.size) (⟨#[13, 10]⟩ : ByteArray) true _ A5.out).mono ?_); rintro e w' ⟨rfl, ⟨nd, rfl⟩⟩; refine ⟨_, rfl, ?_⟩))
        go_ret
        exact ⟨q_5, q_22⟩
      · replace c6 := Bool.eq_false_iff.mpr c6
        subst c6
        have H1 : (if a1 < (a0.size : Int) then (if (bt a0 a1) = 10 then (if a1 ≤ (wrap64 (a1 + 1)) then (if (wrap64 (a1 + 1)) ≤ (a0.size : Int) then (some (a0.extract (a1 : Int).toNat ((wrap64 (a1 + 1)) : Int).toNat)) else (none)) else (none)) else (if (bt a0 a1) = 13 then (if a1 ≤ (wrap64 (a1 + 1)) then (if (wrap64 (a1 + 1)) ≤ (a0.size : Int) then (some (a0.extract (a1 : Int).toNat ((wrap64 (a1 + 1)) : Int).toNat)) else (none)) else (none)) else (some (⟨#[]⟩ : ByteArray)))) else (none)) = some r := by rw [if_neg (show ¬ (false = true) by decide)] at H; exact H
        clear H
        have H := H1
        clear H1
        by_cases c7 : a1 < (a0.size : Int)
        · rw [if_pos c7] at H
          have c7b0 : decide (a1 < (a0.size : Int)) = true := decide_eq_true c7
          clear c7
          by_cases c9 : (bt a0 a1) = 10
          · rw [if_pos c9] at H
            have c9b0 : ((bt a0 a1) == 10) = true := beq_iff_eq.mpr c9
            have c9b1 : ((bt a0 a1) != 10) = false := bne_eq_false_iff_eq.mpr c9
            clear c9
            have c10b0 := eq_true (of_decide_eq_true q_6 : 0 ≤ a1)
            by_cases c11 : a1 ≤ (wrap64 (a1 + 1))
            · rw [if_pos c11] at H
              have c11b0 := eq_true c11
              have c11b1 : decide (a1 ≤ (wrap64 (a1 + 1))) = true := decide_eq_true c11
              by_cases c12 : (wrap64 (a1 + 1)) ≤ (a0.size : Int)
              · rw [if_pos c12] at H
                have c12b0 := eq_true c12
                have c12b1 : decide ((wrap64 (a1 + 1)) ≤ (a0.size : Int)) = true := decide_eq_true c12
                obtain rfl := Option.some.inj H
                go_enter Tryd.func49, Tryd.ntmps49
                go_wp2_with (first | ((with_reducible refine gate_callee (f := 68) rfl ?_); refine goesL_ (some 9) rfl rfl Tryd.func68 (by kernel_rfl) rfl #[.string (a0.extract (a1 : Int).toNat a0.size), .string (⟨#[13, 10]⟩ : ByteArray)] rfl q_2 ?_; (with_reducible refine (strings_HasPrefix.calls (a0.extract (a1 : Int).toNat a0.size) (⟨#[13, 10]⟩ : ByteArray) false _ A5.out).mono ?_); rintro e w' ⟨rfl, ⟨nd, rfl⟩⟩; refine ⟨_, rfl, ?_⟩; have p8 : 0 ≤ (a1 : Int) := of_decide_eq_true q_6; have q8 : a1 < (a0.size : Int) := of_decide_eq_true q_6; have hx8 := bt_at a0 a1; replace p8 := eq_true p8; replace q8 := eq_true q8))
                go_ret
                exact ⟨q_5, q_22⟩
              · rw [if_neg c12] at H
                exact absurd H (by simp)
            · rw [if_neg c11] at H
              exact absurd H (by simp)
          · rw [if_neg c9] at H
            have c9b0 : ((bt a0 a1) == 10) = false := beq_eq_false_iff_ne.mpr c9
            have c9b1 : ((bt a0 a1) != 10) = true := bne_iff_ne.mpr c9
            by_cases c14 : (bt a0 a1) = 13
            · rw [if_pos c14] at H
              have c14b0 : ((bt a0 a1) == 13) = true := beq_iff_eq.mpr c14
              have c14b1 : ((bt a0 a1) != 13) = false := bne_eq_false_iff_eq.mpr c14
              clear c14
              have c15b0 := eq_true (of_decide_eq_true q_6 : 0 ≤ a1)
              by_cases c16 : a1 ≤ (wrap64 (a1 + 1))
              · rw [if_pos c16] at H
                have c16b0 := eq_true c16
                have c16b1 : decide (a1 ≤ (wrap64 (a1 + 1))) = true := decide_eq_true c16
                by_cases c17 : (wrap64 (a1 + 1)) ≤ (a0.size : Int)
                · rw [if_pos c17] at H
                  have c17b0 := eq_true c17
                  have c17b1 : decide ((wrap64 (a1 + 1)) ≤ (a0.size : Int)) = true := decide_eq_true c17
                  obtain rfl := Option.some.inj H
                  go_enter Tryd.func49, Tryd.ntmps49
                  go_wp2_with (first | ((with_reducible refine gate_callee (f := 68) rfl ?_); refine goesL_ (some 9) rfl rfl Tryd.func68 (by kernel_rfl) rfl #[.string (a0.extract (a1 : Int).toNat a0.size), .string (⟨#[13, 10]⟩ : ByteArray)] rfl q_2 ?_; (with_reducible refine (strings_HasPrefix.calls (a0.extract (a1 : Int).toNat a0.size) (⟨#[13, 10]⟩ : ByteArray) false _ A5.out).mono ?_); rintro e w' ⟨rfl, ⟨nd, rfl⟩⟩; refine ⟨_, rfl, ?_⟩; have p8 : 0 ≤ (a1 : Int) := of_decide_eq_true q_6; have q8 : a1 < (a0.size : Int) := of_decide_eq_true q_6; have hx8 := bt_at a0 a1; replace p8 := eq_true p8; replace q8 := eq_true q8; have p13 : 0 ≤ (a1 : Int) := of_decide_eq_true q_6; have q13 : a1 < (a0.size : Int) := of_decide_eq_true q_6; have hx13 := bt_at a0 a1; replace p13 := eq_true p13; replace q13 := eq_true q13))
                  go_ret
                  exact ⟨q_5, q_22⟩
                · rw [if_neg c17] at H
                  exact absurd H (by simp)
              · rw [if_neg c16] at H
                exact absurd H (by simp)
            · rw [if_neg c14] at H
              have c14b0 : ((bt a0 a1) == 13) = false := beq_eq_false_iff_ne.mpr c14
              have c14b1 : ((bt a0 a1) != 13) = true := bne_iff_ne.mpr c14
              obtain rfl := Option.some.inj H
              go_enter Tryd.func49, Tryd.ntmps49
              go_wp2_with (first | ((with_reducible refine gate_callee (f := 68) rfl ?_); refine goesL_ (some 9) rfl rfl Tryd.func68 (by kernel_rfl) rfl #[.string (a0.extract (a1 : Int).toNat a0.size), .string (⟨#[13, 10]⟩ : ByteArray)] rfl q_2 ?_; (with_reducible refine (strings_HasPrefix.calls (a0.extract (a1 : Int).toNat a0.size) (⟨#[13, 10]⟩ : ByteArray) false _ A5.out).mono ?_); rintro e w' ⟨rfl, ⟨nd, rfl⟩⟩; refine ⟨_, rfl, ?_⟩; have p8 : 0 ≤ (a1 : Int) := of_decide_eq_true q_6; have q8 : a1 < (a0.size : Int) := of_decide_eq_true q_6; have hx8 := bt_at a0 a1; replace p8 := eq_true p8; replace q8 := eq_true q8; have p13 : 0 ≤ (a1 : Int) := of_decide_eq_true q_6; have q13 : a1 < (a0.size : Int) := of_decide_eq_true q_6; have hx13 := bt_at a0 a1; replace p13 := eq_true p13; replace q13 := eq_true q13))
              go_ret
              exact ⟨q_5, q_22⟩
        · rw [if_neg c7] at H
          exact absurd H (by simp)
    · rw [if_neg c4] at H
      exact absurd H (by simp)
  · rw [if_neg c3] at H
    exact absurd H (by simp)

/-! ### line_Lines: function 29 -/
def line_Lines.l0 : Nat → ByteArray → List (S53) → Int → Int → Option ((List (S53)))
  | 0, _, _, _, _ => none
  | k + 1, x0, x3, x4, x5 => if x5 < (x0.size : Int) then ((line_end.f x0 x5).bind fun t213 => (if t213.toList = ([] : List UInt8) then (line_Lines.l0 k x0 x3 x4 (wrap64 (x5 + 1))) else (if 0 ≤ x4 then (if x4 ≤ x5 then (if x5 ≤ (x0.size : Int) then (if x3.length < 3518437208883 then (line_Lines.l0 k x0 (x3 ++ [(⟨x0.extract (x4 : Int).toNat (x5 : Int).toNat, t213, x4⟩ : S53)]) (wrap64 (x5 + (t213.size : Int))) (wrap64 (x5 + (t213.size : Int)))) else (none)) else (none)) else (none)) else (none)))) else (if x4 < (x0.size : Int) then (if 0 ≤ x4 then (if x4 ≤ (x0.size : Int) then (if x3.length < 3518437208883 then (some (x3 ++ [(⟨x0.extract (x4 : Int).toNat x0.size, (⟨#[]⟩ : ByteArray), x4⟩ : S53)])) else (none)) else (none)) else (none)) else (some x3))
def line_Lines.f (k : Nat) (a0 : ByteArray) : Option ((List (S53))) := line_Lines.l0 k a0 ([] : List (S53)) 0 0
theorem line_Lines.mono_l : ∀ k, (∀ y0 y1 y2 y3, LeO (line_Lines.l0 k y0 y1 y2 y3) (line_Lines.l0 (k + 1) y0 y1 y2 y3))
  | 0 => fun _ _ _ _ r h => by simp [line_Lines.l0] at h
  | k + 1 => by
    have ih0 := line_Lines.mono_l k
    · intro y0 y1 y2 y3
      unfold line_Lines.l0
      repeat' first
      | (with_reducible exact ih0 _ _ _ _)
      | (with_reducible exact LeO.refl _)
      | (with_reducible exact LeO.none _)
      | (with_reducible refine LeO.ite ?_ ?_)
      | (with_reducible refine LeO.bind ?_ (fun _ => ?_))
      | exact ih0 _ _ _ _
      | exact LeO.none _
      | refine LeO.ite ?_ ?_
      | refine LeO.bind ?_ (fun _ => ?_)
theorem line_Lines.mono : ∀ a0 k, LeO (line_Lines.f k a0) (line_Lines.f (k + 1) a0) := by
  intro a0 k
  have ih0 := line_Lines.mono_l k
  unfold line_Lines.f
  repeat' first
      | (with_reducible exact ih0 _ _ _ _)
      | (with_reducible exact LeO.refl _)
      | (with_reducible exact LeO.none _)
      | (with_reducible refine LeO.ite ?_ ?_)
      | (with_reducible refine LeO.bind ?_ (fun _ => ?_))
      | exact ih0 _ _ _ _
      | exact LeO.none _
      | refine LeO.ite ?_ ?_
      | refine LeO.bind ?_ (fun _ => ?_)
set_option maxHeartbeats 8000000 in
set_option maxRecDepth 100000 in
theorem line_Lines.calls (k : Nat) (a0 : ByteArray) (r : List (S53)) (w : World) (h : line_Lines.f k a0 = some r) :
    Calls Tryd.prog 29 #[.string a0] w fun e w' => ∃ v0_ : Value, e = .returned (v0_) ∧ Kd.R k53 53 w' w.heap.size (fun _ => True) v0_ r ∧ Below w.heap.size w w' := by
  have hu53 := Tryd.underlying53
  have HB := Aside0.mk (Below.refl w.heap.size w)
  have H : (line_Lines.l0 k a0 ([] : List (S53)) 0 0) = some r := h
  clear h
  have H' := Aside0.mk H
  clear H
  go_enter Tryd.func29, Tryd.ntmps29
  go_wp2
  go_loopg [3, 4, 5] k (fun kq v3 v4 v5 w' => ∃ (x3_1 : List (S53)) (x4_1 : Int) (x5_1 : Int), v4 = .int .i64 x4_1 ∧ v5 = .int .i64 x5_1 ∧ Aside0 (line_Lines.l0 kq a0 x3_1 x4_1 x5_1 = some r) ∧ Aside0 (kq ≤ k) ∧ Aside0 (Kd.R k53 53 w' w.heap.size (fun _ => True) v3 x3_1) ∧ Aside0 (Below w.heap.size w w'))
  case atStart => exact ⟨(([] : List (S53))), (0), (0), q_5, q_5, H', ⟨Nat.le_refl _⟩, ⟨q_11⟩, ⟨q_1⟩⟩
  case round =>
    clear H'
    obtain ⟨x3_1, x4_1, x5_1, rfl, rfl, HA, HK1, HO_3, HB⟩ := hrel
    cases gk with
    | zero => exact absurd HA.out (by simp [line_Lines.l0])
    | succ k1 =>
      have H := HA.out
      clear HA
      simp only [line_Lines.l0] at H
      by_cases c2 : x5_1 < (a0.size : Int)
      · rw [if_pos c2] at H
        have c2b0 : decide (x5_1 < (a0.size : Int)) = true := decide_eq_true c2
        clear c2
        replace H := Option.bind_eq_some_iff.mp H
        obtain ⟨t213, A30, H⟩ := H
        replace H : (if t213.toList = ([] : List UInt8) then (line_Lines.l0 k1 a0 x3_1 x4_1 (wrap64 (x5_1 + 1))) else (if 0 ≤ x4_1 then (if x4_1 ≤ x5_1 then (if x5_1 ≤ (a0.size : Int) then (if x3_1.length < 3518437208883 then (line_Lines.l0 k1 a0 (x3_1 ++ [(⟨a0.extract (x4_1 : Int).toNat (x5_1 : Int).toNat, t213, x4_1⟩ : S53)]) (wrap64 (x5_1 + (t213.size : Int))) (wrap64 (x5_1 + (t213.size : Int)))) else (none)) else (none)) else (none)) else (none))) = some r := H
        have A3 := Aside0.mk A30
        clear A30
        by_cases c4 : t213.toList = ([] : List UInt8)
        · rw [if_pos c4] at H
          have c4b0 : (t213.toList == ([] : List UInt8)) = true := beq_iff_eq.mpr c4
          have c4b1 : (t213.toList != ([] : List UInt8)) = false := bne_eq_false_iff_eq.mpr c4
          clear c4
          have H' := Aside0.mk H
          clear H
          go_wp2_with (first | ((with_reducible refine gate_callee (f := 49) rfl ?_); refine goesL_ (some 13) rfl rfl Tryd.func49 (by kernel_rfl) rfl #[.string a0, .int .i64 x5_1] rfl q_2 ?_; (with_reducible refine (line_end.calls a0 x5_1 t213 _ A3.out).mono ?_); rintro e w' ⟨rfl, ⟨nd, rfl⟩⟩; refine ⟨_, rfl, ?_⟩))
          go_roundg k1
          case measure => have := HK1.out; omega
          case rel => exact ⟨(x3_1), (x4_1), (wrap64 (x5_1 + 1)), q_5, q_5, H', ⟨by have := HK1.out; omega⟩, ⟨q_31⟩, ⟨q_1⟩⟩
        · rw [if_neg c4] at H
          have c4b0 : (t213.toList == ([] : List UInt8)) = false := beq_eq_false_iff_ne.mpr c4
          have c4b1 : (t213.toList != ([] : List UInt8)) = true := bne_iff_ne.mpr c4
          by_cases c5 : 0 ≤ x4_1
          · rw [if_pos c5] at H
            have c5b0 := eq_true c5
            have c5b1 : decide (0 ≤ x4_1) = true := decide_eq_true c5
            clear c5
            by_cases c6 : x4_1 ≤ x5_1
            · rw [if_pos c6] at H
              have c6b0 := eq_true c6
              have c6b1 : decide (x4_1 ≤ x5_1) = true := decide_eq_true c6
              clear c6
              by_cases c7 : x5_1 ≤ (a0.size : Int)
              · rw [if_pos c7] at H
                have c7b0 := eq_true c7
                have c7b1 : decide (x5_1 ≤ (a0.size : Int)) = true := decide_eq_true c7
                clear c7
                by_cases c8 : x3_1.length < 3518437208883
                · rw [if_pos c8] at H
                  have LMc8 := Aside0.mk c8
                  clear c8
                  obtain ⟨y214, hy214⟩ : ∃ y_ : List (S53), y_ = (x3_1 ++ [(⟨a0.extract (x4_1 : Int).toNat (x5_1 : Int).toNat, t213, x4_1⟩ : S53)]) := ⟨_, rfl⟩
                  replace H : (line_Lines.l0 k1 a0 y214 (wrap64 (x5_1 + (t213.size : Int))) (wrap64 (x5_1 + (t213.size : Int)))) = some r := by first | (rw [hy214]; with_reducible exact H) | (have H2_ := (Option.bind_some _ _).symm.trans H; rw [hy214]; with_reducible exact H2_) | (have H2_ := (Option.bind_some _ _).symm.trans H; with_reducible exact H2_) | with_reducible exact H | (rw [hy214]; exact H) | exact H
                  have Ny214 := Aside0.mk hy214
                  clear hy214
                  have H' := Aside0.mk H
                  clear H
                  go_wp2_with (first | ((with_reducible refine gate_callee (f := 49) rfl ?_); refine goesL_ (some 13) rfl rfl Tryd.func49 (by kernel_rfl) rfl #[.string a0, .int .i64 x5_1] rfl q_2 ?_; (with_reducible refine (line_end.calls a0 x5_1 t213 _ A3.out).mono ?_); rintro e w' ⟨rfl, ⟨nd, rfl⟩⟩; refine ⟨_, rfl, ?_⟩) | ((with_reducible refine gate_builtin (b := .append) (xs := #[.tmp 18, .tmp 26]) rfl ?_); at_builtin; refine Kd.R_append k53 (w0 := w) w.heap.size rfl (.tmp 18) (.tmp 26) 51 53 (.agg #[(.string ⟨#[]⟩), (.string ⟨#[]⟩), (.int .i64 0)]) 40 rfl Tryd.underlying51 info53 rfl (by decide) (by omega) u3 x3_1 (⟨a0.extract (x4_1 : Int).toNat (x5_1 : Int).toNat, t213, x4_1⟩ : S53) [.string (a0.extract (x4_1 : Int).toNat (x5_1 : Int).toNat), .string t213, .int .i64 x4_1] (fun _ => True) (fun _ => False) rfl rfl ?aP (fun _ hk => hk.elim) ?aF ?aO ?aB ?aS ?aL ?_; (case aP => exact k53_mkM _ _ _ (⟨a0.extract (x4_1 : Int).toNat (x5_1 : Int).toNat, t213, x4_1⟩ : S53)); (case aB => exact q_1); (case aF => exact (fun _ _ => trivial)); (case aO => exact q_31); (case aS => exact (below_size q_1)); (case aL => have := LMc8.out; omega); intro v215 w9 ho hb hg hat; rw [← Ny214.out] at ho; have n0_ := Aside0.mk (hb); have n1_ := Aside0.mk (ho); clear HB; clear HO_3; have HB := n0_; have HO216 := n1_; clear n0_ n1_; clear ho hb hg hat))
                  go_roundg k1
                  case measure => have := HK1.out; omega
                  case rel => exact ⟨(y214), (wrap64 (x5_1 + (t213.size : Int))), (wrap64 (x5_1 + (t213.size : Int))), q_5, q_5, H', ⟨by have := HK1.out; omega⟩, ⟨by (with_reducible repeat (first | apply Kd.R_alloc | apply Kd.R_drewN | apply Kd.R_drew)); exact HO216.out⟩, ⟨q_1⟩⟩
                · rw [if_neg c8] at H
                  exact absurd H (by simp)
              · rw [if_neg c7] at H
                exact absurd H (by simp)
            · rw [if_neg c6] at H
              exact absurd H (by simp)
          · rw [if_neg c5] at H
            exact absurd H (by simp)
      · rw [if_neg c2] at H
        have c2b0 : decide (x5_1 < (a0.size : Int)) = false := decide_eq_false c2
        clear c2
        by_cases c10 : x4_1 < (a0.size : Int)
        · rw [if_pos c10] at H
          have c10b0 : decide (x4_1 < (a0.size : Int)) = true := decide_eq_true c10
          clear c10
          by_cases c11 : 0 ≤ x4_1
          · rw [if_pos c11] at H
            have c11b0 := eq_true c11
            have c11b1 : decide (0 ≤ x4_1) = true := decide_eq_true c11
            clear c11
            by_cases c12 : x4_1 ≤ (a0.size : Int)
            · rw [if_pos c12] at H
              have c12b0 := eq_true c12
              have c12b1 : decide (x4_1 ≤ (a0.size : Int)) = true := decide_eq_true c12
              clear c12
              by_cases c13 : x3_1.length < 3518437208883
              · rw [if_pos c13] at H
                have LMc13 := Aside0.mk c13
                clear c13
                obtain ⟨y217, hy217⟩ : ∃ y_ : List (S53), y_ = (x3_1 ++ [(⟨a0.extract (x4_1 : Int).toNat a0.size, (⟨#[]⟩ : ByteArray), x4_1⟩ : S53)]) := ⟨_, rfl⟩
                replace H : (some y217) = some r := by first | (rw [hy217]; with_reducible exact H) | (have H2_ := (Option.bind_some _ _).symm.trans H; rw [hy217]; with_reducible exact H2_) | (have H2_ := (Option.bind_some _ _).symm.trans H; with_reducible exact H2_) | with_reducible exact H | (rw [hy217]; exact H) | exact H
                have Ny217 := Aside0.mk hy217
                clear hy217
                obtain rfl := Option.some.inj H
                go_wp2_with (first | ((with_reducible refine gate_builtin (b := .append) (xs := #[.tmp 37, .tmp 43]) rfl ?_); at_builtin; refine Kd.R_append k53 (w0 := w) w.heap.size rfl (.tmp 37) (.tmp 43) 51 53 (.agg #[(.string ⟨#[]⟩), (.string ⟨#[]⟩), (.int .i64 0)]) 40 rfl Tryd.underlying51 info53 rfl (by decide) (by omega) u3 x3_1 (⟨a0.extract (x4_1 : Int).toNat a0.size, (⟨#[]⟩ : ByteArray), x4_1⟩ : S53) [.string (a0.extract (x4_1 : Int).toNat a0.size), .string (⟨#[]⟩ : ByteArray), .int .i64 x4_1] (fun _ => True) (fun _ => False) rfl rfl ?aP (fun _ hk => hk.elim) ?aF ?aO ?aB ?aS ?aL ?_; (case aP => exact k53_mkM _ _ _ (⟨a0.extract (x4_1 : Int).toNat a0.size, (⟨#[]⟩ : ByteArray), x4_1⟩ : S53)); (case aB => exact q_1); (case aF => exact (fun _ _ => trivial)); (case aO => exact q_31); (case aS => exact (below_size q_1)); (case aL => have := LMc13.out; omega); intro v218 w14 ho hb hg hat; rw [← Ny217.out] at ho; have n0_ := Aside0.mk (hb); have n1_ := Aside0.mk (ho); clear HB; clear HO_3; have HB := n0_; have HO219 := n1_; clear n0_ n1_; clear ho hb hg hat))
                go_ret
                exact ⟨_, q_10, by (with_reducible repeat (first | apply Kd.R_alloc | apply Kd.R_drewN | apply Kd.R_drew)); exact HO219.out, q_1⟩
              · rw [if_neg c13] at H
                exact absurd H (by simp)
            · rw [if_neg c12] at H
              exact absurd H (by simp)
          · rw [if_neg c11] at H
            exact absurd H (by simp)
        · rw [if_neg c10] at H
          have c10b0 : decide (x4_1 < (a0.size : Int)) = false := decide_eq_false c10
          clear c10
          obtain rfl := Option.some.inj H
          go_wp2
          go_ret
          exact ⟨_, q_10, q_31, q_1⟩

end Go.Proofs.YtkhiiilfokijgaaDoor.PAll
