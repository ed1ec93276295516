/- Written by a program of this session: functions of the Go program as Lean functions, and the walks that tie them to it. -/
import Derived.Test.YtlmhlmendnjmlaaDoorPAllx0
import Derived.Test.YtlmhlmendnjmlaaDoorPAllx3
namespace Go.Proofs.YtlmhlmendnjmlaaDoor.PAll
open Go.RowKit Go.Proofs.YtlmhlmendnjmlaaDoorW.PrintWords Go.Proofs.YtlmhlmendnjmlaaDoorW.PrintLast Go.Proofs.YtlmhlmendnjmlaaDoorW.PrintMore
attribute [local go_sem] max2_int min2_int max_two min_two max_three min_three max_four min_four   -- for this text's walks alone
set_option linter.unusedVariables false
set_option linter.unusedSimpArgs false

/-! ### diacriticref11_Looks: function 14 -/
def diacriticref11_Looks.f (a0 : ByteArray) (a1 : Int) : Option (Bool) := if 0 ≤ a1 then (if a1 < (a0.size : Int) then (if (bt a0 a1) = 255 then (if (wrap64 (a1 + 1)) = (a0.size : Int) then (some true) else (if 0 ≤ (wrap64 (a1 + 1)) then (if (wrap64 (a1 + 1)) < (a0.size : Int) then (if (bt a0 (wrap64 (a1 + 1))) = 0 then (some true) else (some (decide ((bt a0 (wrap64 (a1 + 1))) ≥ 224)))) else (none)) else (none))) else (some false)) else (none)) else (none)
set_option maxHeartbeats 8000000 in
set_option maxRecDepth 100000 in
theorem diacriticref11_Looks.calls (a0 : ByteArray) (a1 : Int) (r : Bool) (w : World) (h : diacriticref11_Looks.f a0 a1 = some r) :
    Calls Tryd.prog 14 #[.string a0, .int .i64 a1] w fun e w' => e = .returned (.bool r) ∧ Drawn0 w w' := by
  have H : (if 0 ≤ a1 then (if a1 < (a0.size : Int) then (if (bt a0 a1) = 255 then (if (wrap64 (a1 + 1)) = (a0.size : Int) then (some true) else (if 0 ≤ (wrap64 (a1 + 1)) then (if (wrap64 (a1 + 1)) < (a0.size : Int) then (if (bt a0 (wrap64 (a1 + 1))) = 0 then (some true) else (some (decide ((bt a0 (wrap64 (a1 + 1))) ≥ 224)))) else (none)) else (none))) else (some false)) else (none)) else (none)) = some r := h
  clear h
  by_cases c3 : 0 ≤ a1
  · rw [if_pos c3] at H
    have c3b0 : decide (0 ≤ a1) = true := decide_eq_true c3
    clear c3
    by_cases c4 : a1 < (a0.size : Int)
    · rw [if_pos c4] at H
      have c4b0 : decide (a1 < (a0.size : Int)) = true := decide_eq_true c4
      clear c4
      by_cases c6 : (bt a0 a1) = 255
      · rw [if_pos c6] at H
        have c6b0 : ((bt a0 a1) == 255) = true := beq_iff_eq.mpr c6
        have c6b1 : ((bt a0 a1) != 255) = false := bne_eq_false_iff_eq.mpr c6
        clear c6
        by_cases c7 : (wrap64 (a1 + 1)) = (a0.size : Int)
        · rw [if_pos c7] at H
          have c7b0 : ((wrap64 (a1 + 1)) == (a0.size : Int)) = true := beq_iff_eq.mpr c7
          have c7b1 : ((wrap64 (a1 + 1)) != (a0.size : Int)) = false := bne_eq_false_iff_eq.mpr c7
          clear c7
          obtain rfl := Option.some.inj H
          have p5 : 0 ≤ (a1 : Int) := of_decide_eq_true q_2
          have q5 : a1 < (a0.size : Int) := of_decide_eq_true q_2
          have hx5 := bt_at a0 a1
          replace p5 := eq_true p5
          replace q5 := eq_true q5
          go_enter Tryd.func14, Tryd.ntmps14
          go_wp2
          go_ret
          exact ⟨q_1, q_9⟩
        · rw [if_neg c7] at H
          have c7b0 : ((wrap64 (a1 + 1)) == (a0.size : Int)) = false := beq_eq_false_iff_ne.mpr c7
          have c7b1 : ((wrap64 (a1 + 1)) != (a0.size : Int)) = true := bne_iff_ne.mpr c7
          obtain ⟨ji8, hji8⟩ : ∃ j_ : Int, (wrap64 (a1 + 1)) = j_ := ⟨_, rfl⟩
          replace H : (if 0 ≤ (ji8) then (if (ji8) < (a0.size : Int) then (if (bt a0 (ji8)) = 0 then (some true) else (some (decide ((bt a0 (ji8)) ≥ 224)))) else (none)) else (none)) = some r := by first | (rw [hji8] at H; exact H) | (simp only [hji8] at H ⊢; exact H)
          (try rw [hji8] at c7b0)
          (try rw [hji8] at c7b1)
          have hji8w : (IntKind.i64.wrap (a1 + 1)) = ji8 := (i64_w _).trans hji8
          by_cases c9 : 0 ≤ (ji8)
          · rw [if_pos c9] at H
            have c9b0 : decide (0 ≤ (ji8)) = true := decide_eq_true c9
            clear c9
            by_cases c10 : (ji8) < (a0.size : Int)
            · rw [if_pos c10] at H
              have c10b0 : decide ((ji8) < (a0.size : Int)) = true := decide_eq_true c10
              clear c10
              by_cases c12 : (bt a0 (ji8)) = 0
              · rw [if_pos c12] at H
                have c12b0 : ((bt a0 (ji8)) == 0) = true := beq_iff_eq.mpr c12
                have c12b1 : ((bt a0 (ji8)) != 0) = false := bne_eq_false_iff_eq.mpr c12
                clear c12
                obtain rfl := Option.some.inj H
                have p5 : 0 ≤ (a1 : Int) := of_decide_eq_true q_2
                have q5 : a1 < (a0.size : Int) := of_decide_eq_true q_2
                have hx5 := bt_at a0 a1
                replace p5 := eq_true p5
                replace q5 := eq_true q5
                have p11 : 0 ≤ ((ji8) : Int) := of_decide_eq_true q_2
                have q11 : (ji8) < (a0.size : Int) := of_decide_eq_true q_2
                have hx11 := bt_at a0 (ji8)
                replace p11 := eq_true p11
                replace q11 := eq_true q11
                go_enter Tryd.func14, Tryd.ntmps14
                go_wp2
                go_ret
                exact ⟨q_8, q_9⟩
              · rw [if_neg c12] at H
                have c12b0 : ((bt a0 (ji8)) == 0) = false := beq_eq_false_iff_ne.mpr c12
                have c12b1 : ((bt a0 (ji8)) != 0) = true := bne_iff_ne.mpr c12
                obtain rfl := Option.some.inj H
                have p5 : 0 ≤ (a1 : Int) := of_decide_eq_true q_2
                have q5 : a1 < (a0.size : Int) := of_decide_eq_true q_2
                have hx5 := bt_at a0 a1
                replace p5 := eq_true p5
                replace q5 := eq_true q5
                have p11 : 0 ≤ ((ji8) : Int) := of_decide_eq_true q_2
                have q11 : (ji8) < (a0.size : Int) := of_decide_eq_true q_2
                have hx11 := bt_at a0 (ji8)
                replace p11 := eq_true p11
                replace q11 := eq_true q11
                have p13 : 0 ≤ ((ji8) : Int) := of_decide_eq_true q_2
                have q13 : (ji8) < (a0.size : Int) := of_decide_eq_true q_2
                have hx13 := bt_at a0 (ji8)
                replace p13 := eq_true p13
                replace q13 := eq_true q13
                go_enter Tryd.func14, Tryd.ntmps14
                go_wp2
                go_ret
                exact ⟨q_8, q_9⟩
            · rw [if_neg c10] at H
              exact absurd H (by simp)
          · rw [if_neg c9] at H
            exact absurd H (by simp)
      · rw [if_neg c6] at H
        have c6b0 : ((bt a0 a1) == 255) = false := beq_eq_false_iff_ne.mpr c6
        have c6b1 : ((bt a0 a1) != 255) = true := bne_iff_ne.mpr c6
        obtain rfl := Option.some.inj H
        have p5 : 0 ≤ (a1 : Int) := of_decide_eq_true q_2
        have q5 : a1 < (a0.size : Int) := of_decide_eq_true q_2
        have hx5 := bt_at a0 a1
        replace p5 := eq_true p5
        replace q5 := eq_true q5
        go_enter Tryd.func14, Tryd.ntmps14
        go_wp2
        go_ret
        exact ⟨q_1, q_9⟩
    · rw [if_neg c4] at H
      exact absurd H (by simp)
  · rw [if_neg c3] at H
    exact absurd H (by simp)

/-! ### diacriticref11_Put: function 15 -/
def diacriticref11_Put.l0 : Nat → ByteArray → ByteArray → Int → Option (ByteArray)
  | 0, _, _, _ => none
  | k + 1, x0, x3, x4 => if x4 < (x0.size : Int) then (if 0 ≤ x4 then (if x4 ≤ (wrap64 (x4 + 1)) then (if (wrap64 (x4 + 1)) ≤ (x0.size : Int) then (if x3.size + (x0.extract (x4 : Int).toNat ((wrap64 (x4 + 1)) : Int).toNat).size ≤ 9223372036854775807 then ((diacriticref11_Looks.f x0 x4).bind fun t122 => (if t122 = true then (if (x3 ++ (x0.extract (x4 : Int).toNat ((wrap64 (x4 + 1)) : Int).toNat)).size + 1 ≤ 9223372036854775807 then (diacriticref11_Put.l0 k x0 ((x3 ++ (x0.extract (x4 : Int).toNat ((wrap64 (x4 + 1)) : Int).toNat)) ++ (⟨#[0]⟩ : ByteArray)) (wrap64 (x4 + 1))) else (none)) else (diacriticref11_Put.l0 k x0 (x3 ++ (x0.extract (x4 : Int).toNat ((wrap64 (x4 + 1)) : Int).toNat)) (wrap64 (x4 + 1))))) else (none)) else (none)) else (none)) else (none)) else (some x3)
def diacriticref11_Put.f (k : Nat) (a0 : ByteArray) : Option (ByteArray) := diacriticref11_Put.l0 k a0 (⟨#[]⟩ : ByteArray) 0
theorem diacriticref11_Put.mono_l : ∀ k, (∀ y0 y1 y2, LeO (diacriticref11_Put.l0 k y0 y1 y2) (diacriticref11_Put.l0 (k + 1) y0 y1 y2))
  | 0 => fun _ _ _ r h => by simp [diacriticref11_Put.l0] at h
  | k + 1 => by
    have ih0 := diacriticref11_Put.mono_l k
    · intro y0 y1 y2
      unfold diacriticref11_Put.l0
      repeat' first
      | (with_reducible exact ih0 _ _ _)
      | (with_reducible exact LeO.refl _)
      | (with_reducible exact LeO.none _)
      | (with_reducible refine LeO.ite ?_ ?_)
      | (with_reducible refine LeO.bind ?_ (fun _ => ?_))
      | exact ih0 _ _ _
      | exact LeO.none _
      | refine LeO.ite ?_ ?_
      | refine LeO.bind ?_ (fun _ => ?_)
theorem diacriticref11_Put.mono : ∀ a0 k, LeO (diacriticref11_Put.f k a0) (diacriticref11_Put.f (k + 1) a0) := by
  intro a0 k
  have ih0 := diacriticref11_Put.mono_l k
  unfold diacriticref11_Put.f
  repeat' first
      | (with_reducible exact ih0 _ _ _)
      | (with_reducible exact LeO.refl _)
      | (with_reducible exact LeO.none _)
      | (with_reducible refine LeO.ite ?_ ?_)
      | (with_reducible refine LeO.bind ?_ (fun _ => ?_))
      | exact ih0 _ _ _
      | exact LeO.none _
      | refine LeO.ite ?_ ?_
      | refine LeO.bind ?_ (fun _ => ?_)
set_option maxHeartbeats 8000000 in
set_option maxRecDepth 100000 in
theorem diacriticref11_Put.calls (k : Nat) (a0 : ByteArray) (r : ByteArray) (w : World) (h : diacriticref11_Put.f k a0 = some r) :
    Calls Tryd.prog 15 #[.string a0] w fun e w' => e = .returned (.string r) ∧ Drawn0 w w' := by
  have H : (diacriticref11_Put.l0 k a0 (⟨#[]⟩ : ByteArray) 0) = some r := h
  clear h
  have H' := Aside0.mk H
  clear H
  go_enter Tryd.func15, Tryd.ntmps15
  go_wp2
  go_loopg [3, 4] k (fun kq v3 v4 w' => ∃ (x3_1 : ByteArray) (x4_1 : Int), v3 = .string x3_1 ∧ v4 = .int .i64 x4_1 ∧ Aside0 (diacriticref11_Put.l0 kq a0 x3_1 x4_1 = some r) ∧ Aside0 (kq ≤ k) ∧ Drawn0 w w')
  case atStart => exact ⟨((⟨#[]⟩ : ByteArray)), (0), q_1, q_1, H', ⟨Nat.le_refl _⟩, q_9⟩
  case round =>
    clear H'
    try clear c1
    obtain ⟨x3_1, x4_1, rfl, rfl, HA, HK1, ⟨m1, rfl⟩⟩ := hrel
    cases gk with
    | zero => exact absurd HA.out (by simp [diacriticref11_Put.l0])
    | succ k1 =>
      have H := HA.out
      clear HA
      simp only [diacriticref11_Put.l0] at H
      by_cases c2 : x4_1 < (a0.size : Int)
      · rw [if_pos c2] at H
        have c2b0 : decide (x4_1 < (a0.size : Int)) = true := decide_eq_true c2
        clear c2
        by_cases c3 : 0 ≤ x4_1
        · rw [if_pos c3] at H
          have c3b0 := eq_true c3
          have c3b1 : decide (0 ≤ x4_1) = true := decide_eq_true c3
          clear c3
          by_cases c4 : x4_1 ≤ (wrap64 (x4_1 + 1))
          · rw [if_pos c4] at H
            have c4b0 := eq_true c4
            have c4b1 : decide (x4_1 ≤ (wrap64 (x4_1 + 1))) = true := decide_eq_true c4
            by_cases c5 : (wrap64 (x4_1 + 1)) ≤ (a0.size : Int)
            · rw [if_pos c5] at H
              have c5b0 := eq_true c5
              have c5b1 : decide ((wrap64 (x4_1 + 1)) ≤ (a0.size : Int)) = true := decide_eq_true c5
              by_cases c6 : x3_1.size + (a0.extract (x4_1 : Int).toNat ((wrap64 (x4_1 + 1)) : Int).toNat).size ≤ 9223372036854775807
              · rw [if_pos c6] at H
                have c6b0 := eq_true c6
                have c6b1 : decide (x3_1.size + (a0.extract (x4_1 : Int).toNat ((wrap64 (x4_1 + 1)) : Int).toNat).size ≤ 9223372036854775807) = true := decide_eq_true c6
                try have c6b2 : (9223372036854775807 < x3_1.size + (a0.extract (x4_1 : Int).toNat ((wrap64 (x4_1 + 1)) : Int).toNat).size) = False := eq_false (Nat.not_lt.2 c6)
                replace H := Option.bind_eq_some_iff.mp H
                obtain ⟨t122, A70, H⟩ := H
                replace H : (if t122 = true then (if (x3_1 ++ (a0.extract (x4_1 : Int).toNat ((wrap64 (x4_1 + 1)) : Int).toNat)).size + 1 ≤ 9223372036854775807 then (diacriticref11_Put.l0 k1 a0 ((x3_1 ++ (a0.extract (x4_1 : Int).toNat ((wrap64 (x4_1 + 1)) : Int).toNat)) ++ (⟨#[0]⟩ : ByteArray)) (wrap64 (x4_1 + 1))) else (none)) else (diacriticref11_Put.l0 k1 a0 (x3_1 ++ (a0.extract (x4_1 : Int).toNat ((wrap64 (x4_1 + 1)) : Int).toNat)) (wrap64 (x4_1 + 1)))) = some r := H
                have A7 := Aside0.mk A70
                clear A70
                by_cases c8 : t122 = true
                · subst c8
                  have H1 : (if (x3_1 ++ (a0.extract (x4_1 : Int).toNat ((wrap64 (x4_1 + 1)) : Int).toNat)).size + 1 ≤ 9223372036854775807 then (diacriticref11_Put.l0 k1 a0 ((x3_1 ++ (a0.extract (x4_1 : Int).toNat ((wrap64 (x4_1 + 1)) : Int).toNat)) ++ (⟨#[0]⟩ : ByteArray)) (wrap64 (x4_1 + 1))) else (none)) = some r := by rw [if_pos rfl] at H; exact H
                  clear H
                  have H := H1
                  clear H1
                  by_cases c9 : (x3_1 ++ (a0.extract (x4_1 : Int).toNat ((wrap64 (x4_1 + 1)) : Int).toNat)).size + 1 ≤ 9223372036854775807
                  · rw [if_pos c9] at H
                    have c9b0 := eq_true c9
                    have c9b1 : decide ((x3_1 ++ (a0.extract (x4_1 : Int).toNat ((wrap64 (x4_1 + 1)) : Int).toNat)).size + 1 ≤ 9223372036854775807) = true := decide_eq_true c9
                    try have c9b2 : (9223372036854775807 < (x3_1 ++ (a0.extract (x4_1 : Int).toNat ((wrap64 (x4_1 + 1)) : Int).toNat)).size + 1) = False := eq_false (Nat.not_lt.2 c9)
                    (try (have c9b2E := c9b2; simp only [ByteArray.size_append] at c9b2E))
                    (try (have c9b2G := c9b2; simp only [ByteArray.size_append, show (a0.extract (x4_1 : Int).toNat ((wrap64 (x4_1 + 1)) : Int).toNat).size = ((wrap64 (x4_1 + 1)) : Int).toNat - (x4_1 : Int).toNat from by rw [ByteArray.size_extract]; omega] at c9b2G))
                    have H' := Aside0.mk H
                    clear H
                    go_wp2_with (first | ((with_reducible refine gate_callee (f := 14) rfl ?_); refine goesL_ (some 20) rfl rfl Tryd.func14 (by kernel_rfl) rfl #[.string a0, .int .i64 x4_1] rfl q_7 ?_; (with_reducible refine (diacriticref11_Looks.calls a0 x4_1 true _ A7.out).mono ?_); rintro e w' ⟨rfl, ⟨nd, rfl⟩⟩; refine ⟨_, rfl, ?_⟩))
                    go_roundg k1
                    case measure => have := HK1.out; omega
                    case rel => exact ⟨((x3_1 ++ (a0.extract (x4_1 : Int).toNat ((wrap64 (x4_1 + 1)) : Int).toNat)) ++ (⟨#[0]⟩ : ByteArray)), (wrap64 (x4_1 + 1)), q_1, q_1, H', ⟨by have := HK1.out; omega⟩, q_9⟩
                  · rw [if_neg c9] at H
                    exact absurd H (by simp)
                · replace c8 := Bool.eq_false_iff.mpr c8
                  subst c8
                  have H1 : (diacriticref11_Put.l0 k1 a0 (x3_1 ++ (a0.extract (x4_1 : Int).toNat ((wrap64 (x4_1 + 1)) : Int).toNat)) (wrap64 (x4_1 + 1))) = some r := by rw [if_neg (show ¬ (false = true) by decide)] at H; exact H
                  clear H
                  have H := H1
                  clear H1
                  have H' := Aside0.mk H
                  clear H
                  go_wp2_with (first | ((with_reducible refine gate_callee (f := 14) rfl ?_); refine goesL_ (some 20) rfl rfl Tryd.func14 (by kernel_rfl) rfl #[.string a0, .int .i64 x4_1] rfl q_7 ?_; (with_reducible refine (diacriticref11_Looks.calls a0 x4_1 false _ A7.out).mono ?_); rintro e w' ⟨rfl, ⟨nd, rfl⟩⟩; refine ⟨_, rfl, ?_⟩))
                  go_roundg k1
                  case measure => have := HK1.out; omega
                  case rel => exact ⟨(x3_1 ++ (a0.extract (x4_1 : Int).toNat ((wrap64 (x4_1 + 1)) : Int).toNat)), (wrap64 (x4_1 + 1)), q_1, q_1, H', ⟨by have := HK1.out; omega⟩, q_9⟩
              · rw [if_neg c6] at H
                exact absurd H (by simp)
            · rw [if_neg c5] at H
              exact absurd H (by simp)
          · rw [if_neg c4] at H
            exact absurd H (by simp)
        · rw [if_neg c3] at H
          exact absurd H (by simp)
      · rw [if_neg c2] at H
        have c2b0 : decide (x4_1 < (a0.size : Int)) = false := decide_eq_false c2
        clear c2
        obtain rfl := Option.some.inj H
        go_wp2
        go_ret
        exact ⟨q_1, q_9⟩

/-! ### diacriticref11_Drop: function 16 -/
def diacriticref11_Drop.l0 : Nat → ByteArray → ByteArray → Int → Option (ByteArray)
  | 0, _, _, _ => none
  | k + 1, x0, x3, x4 => if x4 < (x0.size : Int) then (if 0 ≤ x4 then (if x4 ≤ (wrap64 (x4 + 1)) then (if (wrap64 (x4 + 1)) ≤ (x0.size : Int) then (if x3.size + (x0.extract (x4 : Int).toNat ((wrap64 (x4 + 1)) : Int).toNat).size ≤ 9223372036854775807 then (if (bt x0 x4) = 255 then (if (wrap64 (x4 + 1)) < (x0.size : Int) then (if 0 ≤ (wrap64 (x4 + 1)) then (if (bt x0 (wrap64 (x4 + 1))) = 0 then (diacriticref11_Drop.l0 k x0 (x3 ++ (x0.extract (x4 : Int).toNat ((wrap64 (x4 + 1)) : Int).toNat)) (wrap64 ((wrap64 (x4 + 1)) + 1))) else (diacriticref11_Drop.l0 k x0 (x3 ++ (x0.extract (x4 : Int).toNat ((wrap64 (x4 + 1)) : Int).toNat)) (wrap64 (x4 + 1)))) else (none)) else (diacriticref11_Drop.l0 k x0 (x3 ++ (x0.extract (x4 : Int).toNat ((wrap64 (x4 + 1)) : Int).toNat)) (wrap64 (x4 + 1)))) else (diacriticref11_Drop.l0 k x0 (x3 ++ (x0.extract (x4 : Int).toNat ((wrap64 (x4 + 1)) : Int).toNat)) (wrap64 (x4 + 1)))) else (none)) else (none)) else (none)) else (none)) else (some x3)
def diacriticref11_Drop.f (k : Nat) (a0 : ByteArray) : Option (ByteArray) := diacriticref11_Drop.l0 k a0 (⟨#[]⟩ : ByteArray) 0
theorem diacriticref11_Drop.mono_l : ∀ k, (∀ y0 y1 y2, LeO (diacriticref11_Drop.l0 k y0 y1 y2) (diacriticref11_Drop.l0 (k + 1) y0 y1 y2))
  | 0 => fun _ _ _ r h => by simp [diacriticref11_Drop.l0] at h
  | k + 1 => by
    have ih0 := diacriticref11_Drop.mono_l k
    · intro y0 y1 y2
      unfold diacriticref11_Drop.l0
      repeat' first
      | (with_reducible exact ih0 _ _ _)
      | (with_reducible exact LeO.refl _)
      | (with_reducible exact LeO.none _)
      | (with_reducible refine LeO.ite ?_ ?_)
      | (with_reducible refine LeO.bind ?_ (fun _ => ?_))
      | exact ih0 _ _ _
      | exact LeO.none _
      | refine LeO.ite ?_ ?_
      | refine LeO.bind ?_ (fun _ => ?_)
theorem diacriticref11_Drop.mono : ∀ a0 k, LeO (diacriticref11_Drop.f k a0) (diacriticref11_Drop.f (k + 1) a0) := by
  intro a0 k
  have ih0 := diacriticref11_Drop.mono_l k
  unfold diacriticref11_Drop.f
  repeat' first
      | (with_reducible exact ih0 _ _ _)
      | (with_reducible exact LeO.refl _)
      | (with_reducible exact LeO.none _)
      | (with_reducible refine LeO.ite ?_ ?_)
      | (with_reducible refine LeO.bind ?_ (fun _ => ?_))
      | exact ih0 _ _ _
      | exact LeO.none _
      | refine LeO.ite ?_ ?_
      | refine LeO.bind ?_ (fun _ => ?_)
set_option maxHeartbeats 8000000 in
set_option maxRecDepth 100000 in
theorem diacriticref11_Drop.calls (k : Nat) (a0 : ByteArray) (r : ByteArray) (w : World) (h : diacriticref11_Drop.f k a0 = some r) :
    Calls Tryd.prog 16 #[.string a0] w fun e w' => e = .returned (.string r) ∧ Drawn0 w w' := by
  have H : (diacriticref11_Drop.l0 k a0 (⟨#[]⟩ : ByteArray) 0) = some r := h
  clear h
  have H' := Aside0.mk H
  clear H
  go_enter Tryd.func16, Tryd.ntmps16
  go_wp2
  go_loopg [3, 4] k (fun kq v3 v4 w' => ∃ (x3_1 : ByteArray) (x4_1 : Int), v3 = .string x3_1 ∧ v4 = .int .i64 x4_1 ∧ Aside0 (diacriticref11_Drop.l0 kq a0 x3_1 x4_1 = some r) ∧ Aside0 (kq ≤ k) ∧ Drawn0 w w')
  case atStart => exact ⟨((⟨#[]⟩ : ByteArray)), (0), q_1, q_1, H', ⟨Nat.le_refl _⟩, q_9⟩
  case round =>
    clear H'
    try clear c1
    obtain ⟨x3_1, x4_1, rfl, rfl, HA, HK1, ⟨m1, rfl⟩⟩ := hrel
    cases gk with
    | zero => exact absurd HA.out (by simp [diacriticref11_Drop.l0])
    | succ k1 =>
      have H := HA.out
      clear HA
      simp only [diacriticref11_Drop.l0] at H
      by_cases c2 : x4_1 < (a0.size : Int)
      · rw [if_pos c2] at H
        have c2b0 : decide (x4_1 < (a0.size : Int)) = true := decide_eq_true c2
        clear c2
        by_cases c3 : 0 ≤ x4_1
        · rw [if_pos c3] at H
          have c3b0 := eq_true c3
          have c3b1 : decide (0 ≤ x4_1) = true := decide_eq_true c3
          clear c3
          by_cases c4 : x4_1 ≤ (wrap64 (x4_1 + 1))
          · rw [if_pos c4] at H
            have c4b0 := eq_true c4
            have c4b1 : decide (x4_1 ≤ (wrap64 (x4_1 + 1))) = true := decide_eq_true c4
            by_cases c5 : (wrap64 (x4_1 + 1)) ≤ (a0.size : Int)
            · rw [if_pos c5] at H
              have c5b0 := eq_true c5
              have c5b1 : decide ((wrap64 (x4_1 + 1)) ≤ (a0.size : Int)) = true := decide_eq_true c5
              by_cases c6 : x3_1.size + (a0.extract (x4_1 : Int).toNat ((wrap64 (x4_1 + 1)) : Int).toNat).size ≤ 9223372036854775807
              · rw [if_pos c6] at H
                have c6b0 := eq_true c6
                have c6b1 : decide (x3_1.size + (a0.extract (x4_1 : Int).toNat ((wrap64 (x4_1 + 1)) : Int).toNat).size ≤ 9223372036854775807) = true := decide_eq_true c6
                try have c6b2 : (9223372036854775807 < x3_1.size + (a0.extract (x4_1 : Int).toNat ((wrap64 (x4_1 + 1)) : Int).toNat).size) = False := eq_false (Nat.not_lt.2 c6)
                by_cases c8 : (bt a0 x4_1) = 255
                · rw [if_pos c8] at H
                  have c8b0 : ((bt a0 x4_1) == 255) = true := beq_iff_eq.mpr c8
                  have c8b1 : ((bt a0 x4_1) != 255) = false := bne_eq_false_iff_eq.mpr c8
                  clear c8
                  by_cases c9 : (wrap64 (x4_1 + 1)) < (a0.size : Int)
                  · rw [if_pos c9] at H
                    have c9b0 : decide ((wrap64 (x4_1 + 1)) < (a0.size : Int)) = true := decide_eq_true c9
                    clear c9
                    obtain ⟨ji10, hji10⟩ : ∃ j_ : Int, (wrap64 (x4_1 + 1)) = j_ := ⟨_, rfl⟩
                    replace H : (if 0 ≤ (ji10) then (if (bt a0 (ji10)) = 0 then (diacriticref11_Drop.l0 k1 a0 (x3_1 ++ (a0.extract (x4_1 : Int).toNat ((ji10) : Int).toNat)) (wrap64 ((ji10) + 1))) else (diacriticref11_Drop.l0 k1 a0 (x3_1 ++ (a0.extract (x4_1 : Int).toNat ((ji10) : Int).toNat)) ji10)) else (none)) = some r := by first | (rw [hji10] at H; exact H) | (simp only [hji10] at H ⊢; exact H)
                    (try rw [hji10] at c4b0)
                    (try rw [hji10] at c4b1)
                    (try rw [hji10] at c4)
                    (try rw [hji10] at c5b0)
                    (try rw [hji10] at c5b1)
                    (try rw [hji10] at c5)
                    (try rw [hji10] at c6b0)
                    (try rw [hji10] at c6b1)
                    (try rw [hji10] at c6)
                    (try rw [hji10] at c9b0)
                    have hji10w : (IntKind.i64.wrap (x4_1 + 1)) = ji10 := (i64_w _).trans hji10
                    by_cases c11 : 0 ≤ (ji10)
                    · rw [if_pos c11] at H
                      have c11b0 : decide (0 ≤ (ji10)) = true := decide_eq_true c11
                      clear c11
                      by_cases c13 : (bt a0 (ji10)) = 0
                      · rw [if_pos c13] at H
                        have c13b0 : ((bt a0 (ji10)) == 0) = true := beq_iff_eq.mpr c13
                        have c13b1 : ((bt a0 (ji10)) != 0) = false := bne_eq_false_iff_eq.mpr c13
                        clear c13
                        have H' := Aside0.mk H
                        clear H
                        have p7 : 0 ≤ (x4_1 : Int) := of_decide_eq_true q_2
                        have q7 : x4_1 < (a0.size : Int) := of_decide_eq_true q_2
                        have hx7 := bt_at a0 x4_1
                        replace p7 := eq_true p7
                        replace q7 := eq_true q7
                        have p12 : 0 ≤ ((ji10) : Int) := of_decide_eq_true q_2
                        have q12 : (ji10) < (a0.size : Int) := of_decide_eq_true q_2
                        have hx12 := bt_at a0 (ji10)
                        replace p12 := eq_true p12
                        replace q12 := eq_true q12
                        go_wp2
                        go_roundg k1
                        case measure => have := HK1.out; omega
                        case rel => exact ⟨(x3_1 ++ (a0.extract (x4_1 : Int).toNat ((ji10) : Int).toNat)), (wrap64 ((ji10) + 1)), q_12, q_12, H', ⟨by have := HK1.out; omega⟩, q_9⟩
                      · rw [if_neg c13] at H
                        have c13b0 : ((bt a0 (ji10)) == 0) = false := beq_eq_false_iff_ne.mpr c13
                        have c13b1 : ((bt a0 (ji10)) != 0) = true := bne_iff_ne.mpr c13
                        have H' := Aside0.mk H
                        clear H
                        have p7 : 0 ≤ (x4_1 : Int) := of_decide_eq_true q_2
                        have q7 : x4_1 < (a0.size : Int) := of_decide_eq_true q_2
                        have hx7 := bt_at a0 x4_1
                        replace p7 := eq_true p7
                        replace q7 := eq_true q7
                        have p12 : 0 ≤ ((ji10) : Int) := of_decide_eq_true q_2
                        have q12 : (ji10) < (a0.size : Int) := of_decide_eq_true q_2
                        have hx12 := bt_at a0 (ji10)
                        replace p12 := eq_true p12
                        replace q12 := eq_true q12
                        go_wp2
                        go_roundg k1
                        case measure => have := HK1.out; omega
                        case rel => exact ⟨(x3_1 ++ (a0.extract (x4_1 : Int).toNat ((ji10) : Int).toNat)), (ji10), q_12, q_12, H', ⟨by have := HK1.out; omega⟩, q_9⟩
                    · rw [if_neg c11] at H
                      exact absurd H (by simp)
                  · rw [if_neg c9] at H
                    have c9b0 : decide ((wrap64 (x4_1 + 1)) < (a0.size : Int)) = false := decide_eq_false c9
                    clear c9
                    have H' := Aside0.mk H
                    clear H
                    have p7 : 0 ≤ (x4_1 : Int) := of_decide_eq_true q_2
                    have q7 : x4_1 < (a0.size : Int) := of_decide_eq_true q_2
                    have hx7 := bt_at a0 x4_1
                    replace p7 := eq_true p7
                    replace q7 := eq_true q7
                    go_wp2
                    go_roundg k1
                    case measure => have := HK1.out; omega
                    case rel => exact ⟨(x3_1 ++ (a0.extract (x4_1 : Int).toNat ((wrap64 (x4_1 + 1)) : Int).toNat)), (wrap64 (x4_1 + 1)), q_1, q_1, H', ⟨by have := HK1.out; omega⟩, q_9⟩
                · rw [if_neg c8] at H
                  have c8b0 : ((bt a0 x4_1) == 255) = false := beq_eq_false_iff_ne.mpr c8
                  have c8b1 : ((bt a0 x4_1) != 255) = true := bne_iff_ne.mpr c8
                  have H' := Aside0.mk H
                  clear H
                  have p7 : 0 ≤ (x4_1 : Int) := of_decide_eq_true q_2
                  have q7 : x4_1 < (a0.size : Int) := of_decide_eq_true q_2
                  have hx7 := bt_at a0 x4_1
                  replace p7 := eq_true p7
                  replace q7 := eq_true q7
                  go_wp2
                  go_roundg k1
                  case measure => have := HK1.out; omega
                  case rel => exact ⟨(x3_1 ++ (a0.extract (x4_1 : Int).toNat ((wrap64 (x4_1 + 1)) : Int).toNat)), (wrap64 (x4_1 + 1)), q_1, q_1, H', ⟨by have := HK1.out; omega⟩, q_9⟩
              · rw [if_neg c6] at H
                exact absurd H (by simp)
            · rw [if_neg c5] at H
              exact absurd H (by simp)
          · rw [if_neg c4] at H
            exact absurd H (by simp)
        · rw [if_neg c3] at H
          exact absurd H (by simp)
      · rw [if_neg c2] at H
        have c2b0 : decide (x4_1 < (a0.size : Int)) = false := decide_eq_false c2
        clear c2
        obtain rfl := Option.some.inj H
        go_wp2
        go_ret
        exact ⟨q_1, q_9⟩

/-! ### unsync_Extra: function 17 -/
def unsync_Extra.f (k : Nat) (a0 : ByteArray) : Option (Int) := (unsync_Put.f k a0).bind fun t123 => (some (wrap64 ((t123.size : Int) - (a0.size : Int))))
theorem unsync_Extra.mono : ∀ a0 k, LeO (unsync_Extra.f k a0) (unsync_Extra.f (k + 1) a0) := by
  intro a0 k
  unfold unsync_Extra.f
  repeat' first
      | (with_reducible exact unsync_Put.mono _ _)
      | (with_reducible exact LeO.refl _)
      | (with_reducible exact LeO.none _)
      | (with_reducible refine LeO.ite ?_ ?_)
      | (with_reducible refine LeO.bind ?_ (fun _ => ?_))
      | exact unsync_Put.mono _ _
      | exact LeO.none _
      | refine LeO.ite ?_ ?_
      | refine LeO.bind ?_ (fun _ => ?_)
set_option maxHeartbeats 8000000 in
set_option maxRecDepth 100000 in
theorem unsync_Extra.calls (k : Nat) (a0 : ByteArray) (r : Int) (w : World) (h : unsync_Extra.f k a0 = some r) :
    Calls Tryd.prog 17 #[.string a0] w fun e w' => e = .returned (.int .i64 r) ∧ Below w.heap.size w w' := by
  have HB := Aside0.mk (Below.refl w.heap.size w)
  have H : ((unsync_Put.f k a0).bind fun t123 => (some (wrap64 ((t123.size : Int) - (a0.size : Int))))) = some r := h
  clear h
  replace H := Option.bind_eq_some_iff.mp H
  obtain ⟨t123, A20, H⟩ := H
  replace H : (some (wrap64 ((t123.size : Int) - (a0.size : Int)))) = some r := H
  have A2 := Aside0.mk A20
  clear A20
  obtain rfl := Option.some.inj H
  go_enter Tryd.func17, Tryd.ntmps17
  go_wp2_with (first | ((with_reducible refine gate_callee (f := 11) rfl ?_); refine goesL_ (some 4) rfl rfl Tryd.func11 (by kernel_rfl) rfl #[.string a0] rfl q_7 ?_; (with_reducible refine (unsync_Put.calls k a0 t123 _ A2.out).mono ?_); rintro e w3 ⟨rfl, hb⟩; refine ⟨_, rfl, ?_⟩; have n0_ := Aside0.mk (below_step q_3 hb); clear HB; have HB := n0_; clear n0_; (try clear hb); (try clear hb2); (try clear hk); (try clear hi)))
  go_ret
  exact ⟨q_11, q_3⟩

end Go.Proofs.YtlmhlmendnjmlaaDoor.PAll
