/- Written by a program of this session: functions of the Go program as Lean functions, and the walks that tie them to it. -/
import Derived.Test.YtmfamkkikiglmaaPAllx0
import Derived.Test.YtmfamkkikiglmaaPAllx13
namespace Go.Proofs.Ytmfamkkikiglmaa.PAll
open Go.RowKit Go.Proofs.YtmfamkkikiglmaaW.PrintWords Go.Proofs.YtmfamkkikiglmaaW.PrintLast Go.Proofs.YtmfamkkikiglmaaW.PrintMore
attribute [local go_sem] max2_int min2_int max_two min_two max_three min_three max_four min_four   -- for this text's walks alone
set_option linter.unusedVariables false
set_option linter.unusedSimpArgs false

/-! ### diacriticref17_with: function 50 -/
def diacriticref17_with.f (k : Nat) (a0_0 : Int) (a0_1 : Int) (a0_2 : Int) (a0_3 : Int) (a0_4 : ByteArray) (a0_5 : ByteArray) (a1 : ByteArray) : Option (ByteArray) := (diacriticref01_Big.f k (IntKind.u64.wrap (a0_0)) 1).bind fun t360 => (if 5 + t360.size ≤ 9223372036854775807 then ((diacriticref01_Small.f k a0_1 8).bind fun t361 => (if ((⟨#[79, 103, 103, 83, 0]⟩ : ByteArray) ++ t360).size + t361.size ≤ 9223372036854775807 then ((diacriticref01_Small.f k a0_2 4).bind fun t362 => (if (((⟨#[79, 103, 103, 83, 0]⟩ : ByteArray) ++ t360) ++ t361).size + t362.size ≤ 9223372036854775807 then ((diacriticref01_Small.f k a0_3 4).bind fun t363 => (if ((((⟨#[79, 103, 103, 83, 0]⟩ : ByteArray) ++ t360) ++ t361) ++ t362).size + t363.size ≤ 9223372036854775807 then (if (((((⟨#[79, 103, 103, 83, 0]⟩ : ByteArray) ++ t360) ++ t361) ++ t362) ++ t363).size + a1.size ≤ 9223372036854775807 then ((diacriticref01_Big.f k (IntKind.u64.wrap ((a0_4.size : Int))) 1).bind fun t364 => (if ((((((⟨#[79, 103, 103, 83, 0]⟩ : ByteArray) ++ t360) ++ t361) ++ t362) ++ t363) ++ a1).size + t364.size ≤ 9223372036854775807 then (if (((((((⟨#[79, 103, 103, 83, 0]⟩ : ByteArray) ++ t360) ++ t361) ++ t362) ++ t363) ++ a1) ++ t364).size + a0_4.size ≤ 9223372036854775807 then (if ((((((((⟨#[79, 103, 103, 83, 0]⟩ : ByteArray) ++ t360) ++ t361) ++ t362) ++ t363) ++ a1) ++ t364) ++ a0_4).size + a0_5.size ≤ 9223372036854775807 then (some (((((((((⟨#[79, 103, 103, 83, 0]⟩ : ByteArray) ++ t360) ++ t361) ++ t362) ++ t363) ++ a1) ++ t364) ++ a0_4) ++ a0_5)) else (none)) else (none)) else (none))) else (none)) else (none))) else (none))) else (none))) else (none))
theorem diacriticref17_with.mono : ∀ a0 a1 a2 a3 a4 a5 a6 k, LeO (diacriticref17_with.f k a0 a1 a2 a3 a4 a5 a6) (diacriticref17_with.f (k + 1) a0 a1 a2 a3 a4 a5 a6) := by
  intro a0 a1 a2 a3 a4 a5 a6 k
  unfold diacriticref17_with.f
  repeat' first
      | (with_reducible exact diacriticref01_Big.mono _ _ _)
      | (with_reducible exact diacriticref01_Small.mono _ _ _)
      | (with_reducible exact LeO.refl _)
      | (with_reducible exact LeO.none _)
      | (with_reducible refine LeO.ite ?_ ?_)
      | (with_reducible refine LeO.bind ?_ (fun _ => ?_))
      | exact diacriticref01_Big.mono _ _ _
      | exact diacriticref01_Small.mono _ _ _
      | exact LeO.none _
      | refine LeO.ite ?_ ?_
      | refine LeO.bind ?_ (fun _ => ?_)
def diacriticref17_with.T1 : Bool × List (List Nat × List Nat) := (true, [([], []), ([0], [0]), ([1], [1]), ([2], [2]), ([3], [3]), ([], []), ([5], [5]), ([6, 3], [6]), ([4, 7], [4, 7]), ([], []), ([9], [9]), ([10, 7], [10]), ([8, 11], [8, 11]), ([], []), ([13], [13]), ([14, 11], [14]), ([12, 15], [12, 15]), ([], []), ([16, 17], [16, 17]), ([], []), ([19], [19]), ([20], [20]), ([21], [21]), ([22, 15], [22]), ([18, 23], [18, 23]), ([], []), ([25], [25]), ([24, 26], [24, 26]), ([], []), ([28], [28]), ([27, 29], [27, 29]), ([30, 23, 0, 1, 2, 3, 4, 5, 6, 7, 8, 9, 10, 11, 12, 13, 14, 15, 16, 17, 18, 19, 20, 21, 22, 23, 24, 25, 26, 27, 28, 29, 30], [30])])
def diacriticref17_with.B1 : List Nat := [0, 1, 3, 7, 15, 0, 32, 111, 255, 0, 512, 1775, 4095, 0, 8192, 28399, 65535, 0, 262143, 0, 524288, 1572864, 3670016, 7925487, 16777215, 0, 33554432, 134217727, 0, 268435456, 1073741823, 2147483647]
theorem diacriticref17_with.tab1 : rtab .any (opsOf Try.f50 1) = diacriticref17_with.T1 := by kernel_rfl
theorem diacriticref17_with.bits1 : waitsOk diacriticref17_with.T1.2 diacriticref17_with.B1 = true := by kernel_rfl
set_option maxHeartbeats 8000000 in
set_option maxRecDepth 100000 in
theorem diacriticref17_with.calls (k : Nat) (a0_0 : Int) (a0_1 : Int) (a0_2 : Int) (a0_3 : Int) (a0_4 : ByteArray) (a0_5 : ByteArray) (a1 : ByteArray) (r : ByteArray) (w : World) (h : diacriticref17_with.f k a0_0 a0_1 a0_2 a0_3 a0_4 a0_5 a1 = some r) :
    Calls Try.prog 50 #[.agg #[.int .i64 a0_0, .int .u64 a0_1, .int .u64 a0_2, .int .u64 a0_3, .string a0_4, .string a0_5], .string a1] w fun e w' => e = .returned (.string r) ∧ Below w.heap.size w w' := by
  have hu43 := Try.underlying43
  have HB := Aside0.mk (Below.refl w.heap.size w)
  have H : ((diacriticref01_Big.f k (IntKind.u64.wrap (a0_0)) 1).bind fun t360 => (if 5 + t360.size ≤ 9223372036854775807 then ((diacriticref01_Small.f k a0_1 8).bind fun t361 => (if ((⟨#[79, 103, 103, 83, 0]⟩ : ByteArray) ++ t360).size + t361.size ≤ 9223372036854775807 then ((diacriticref01_Small.f k a0_2 4).bind fun t362 => (if (((⟨#[79, 103, 103, 83, 0]⟩ : ByteArray) ++ t360) ++ t361).size + t362.size ≤ 9223372036854775807 then ((diacriticref01_Small.f k a0_3 4).bind fun t363 => (if ((((⟨#[79, 103, 103, 83, 0]⟩ : ByteArray) ++ t360) ++ t361) ++ t362).size + t363.size ≤ 9223372036854775807 then (if (((((⟨#[79, 103, 103, 83, 0]⟩ : ByteArray) ++ t360) ++ t361) ++ t362) ++ t363).size + a1.size ≤ 9223372036854775807 then ((diacriticref01_Big.f k (IntKind.u64.wrap ((a0_4.size : Int))) 1).bind fun t364 => (if ((((((⟨#[79, 103, 103, 83, 0]⟩ : ByteArray) ++ t360) ++ t361) ++ t362) ++ t363) ++ a1).size + t364.size ≤ 9223372036854775807 then (if (((((((⟨#[79, 103, 103, 83, 0]⟩ : ByteArray) ++ t360) ++ t361) ++ t362) ++ t363) ++ a1) ++ t364).size + a0_4.size ≤ 9223372036854775807 then (if ((((((((⟨#[79, 103, 103, 83, 0]⟩ : ByteArray) ++ t360) ++ t361) ++ t362) ++ t363) ++ a1) ++ t364) ++ a0_4).size + a0_5.size ≤ 9223372036854775807 then (some (((((((((⟨#[79, 103, 103, 83, 0]⟩ : ByteArray) ++ t360) ++ t361) ++ t362) ++ t363) ++ a1) ++ t364) ++ a0_4) ++ a0_5)) else (none)) else (none)) else (none))) else (none)) else (none))) else (none))) else (none))) else (none))) = some r := h
  clear h
  replace H := Option.bind_eq_some_iff.mp H
  obtain ⟨t360, A30, H⟩ := H
  replace H : (if 5 + t360.size ≤ 9223372036854775807 then ((diacriticref01_Small.f k a0_1 8).bind fun t361 => (if ((⟨#[79, 103, 103, 83, 0]⟩ : ByteArray) ++ t360).size + t361.size ≤ 9223372036854775807 then ((diacriticref01_Small.f k a0_2 4).bind fun t362 => (if (((⟨#[79, 103, 103, 83, 0]⟩ : ByteArray) ++ t360) ++ t361).size + t362.size ≤ 9223372036854775807 then ((diacriticref01_Small.f k a0_3 4).bind fun t363 => (if ((((⟨#[79, 103, 103, 83, 0]⟩ : ByteArray) ++ t360) ++ t361) ++ t362).size + t363.size ≤ 9223372036854775807 then (if (((((⟨#[79, 103, 103, 83, 0]⟩ : ByteArray) ++ t360) ++ t361) ++ t362) ++ t363).size + a1.size ≤ 9223372036854775807 then ((diacriticref01_Big.f k (IntKind.u64.wrap ((a0_4.size : Int))) 1).bind fun t364 => (if ((((((⟨#[79, 103, 103, 83, 0]⟩ : ByteArray) ++ t360) ++ t361) ++ t362) ++ t363) ++ a1).size + t364.size ≤ 9223372036854775807 then (if (((((((⟨#[79, 103, 103, 83, 0]⟩ : ByteArray) ++ t360) ++ t361) ++ t362) ++ t363) ++ a1) ++ t364).size + a0_4.size ≤ 9223372036854775807 then (if ((((((((⟨#[79, 103, 103, 83, 0]⟩ : ByteArray) ++ t360) ++ t361) ++ t362) ++ t363) ++ a1) ++ t364) ++ a0_4).size + a0_5.size ≤ 9223372036854775807 then (some (((((((((⟨#[79, 103, 103, 83, 0]⟩ : ByteArray) ++ t360) ++ t361) ++ t362) ++ t363) ++ a1) ++ t364) ++ a0_4) ++ a0_5)) else (none)) else (none)) else (none))) else (none)) else (none))) else (none))) else (none))) else (none)) = some r := H
  have A3 := Aside0.mk A30
  clear A30
  by_cases c4 : 5 + t360.size ≤ 9223372036854775807
  · rw [if_pos c4] at H
    have c4b0 := eq_true c4
    have c4b1 : decide (5 + t360.size ≤ 9223372036854775807) = true := decide_eq_true c4
    try have c4b2 : (9223372036854775807 < 5 + t360.size) = False := eq_false (Nat.not_lt.2 c4)
    replace H := Option.bind_eq_some_iff.mp H
    obtain ⟨t361, A50, H⟩ := H
    replace H : (if ((⟨#[79, 103, 103, 83, 0]⟩ : ByteArray) ++ t360).size + t361.size ≤ 9223372036854775807 then ((diacriticref01_Small.f k a0_2 4).bind fun t362 => (if (((⟨#[79, 103, 103, 83, 0]⟩ : ByteArray) ++ t360) ++ t361).size + t362.size ≤ 9223372036854775807 then ((diacriticref01_Small.f k a0_3 4).bind fun t363 => (if ((((⟨#[79, 103, 103, 83, 0]⟩ : ByteArray) ++ t360) ++ t361) ++ t362).size + t363.size ≤ 9223372036854775807 then (if (((((⟨#[79, 103, 103, 83, 0]⟩ : ByteArray) ++ t360) ++ t361) ++ t362) ++ t363).size + a1.size ≤ 9223372036854775807 then ((diacriticref01_Big.f k (IntKind.u64.wrap ((a0_4.size : Int))) 1).bind fun t364 => (if ((((((⟨#[79, 103, 103, 83, 0]⟩ : ByteArray) ++ t360) ++ t361) ++ t362) ++ t363) ++ a1).size + t364.size ≤ 9223372036854775807 then (if (((((((⟨#[79, 103, 103, 83, 0]⟩ : ByteArray) ++ t360) ++ t361) ++ t362) ++ t363) ++ a1) ++ t364).size + a0_4.size ≤ 9223372036854775807 then (if ((((((((⟨#[79, 103, 103, 83, 0]⟩ : ByteArray) ++ t360) ++ t361) ++ t362) ++ t363) ++ a1) ++ t364) ++ a0_4).size + a0_5.size ≤ 9223372036854775807 then (some (((((((((⟨#[79, 103, 103, 83, 0]⟩ : ByteArray) ++ t360) ++ t361) ++ t362) ++ t363) ++ a1) ++ t364) ++ a0_4) ++ a0_5)) else (none)) else (none)) else (none))) else (none)) else (none))) else (none))) else (none)) = some r := H
    have A5 := Aside0.mk A50
    clear A50
    by_cases c6 : ((⟨#[79, 103, 103, 83, 0]⟩ : ByteArray) ++ t360).size + t361.size ≤ 9223372036854775807
    · rw [if_pos c6] at H
      have c6b0 := eq_true c6
      have c6b1 : decide (((⟨#[79, 103, 103, 83, 0]⟩ : ByteArray) ++ t360).size + t361.size ≤ 9223372036854775807) = true := decide_eq_true c6
      try have c6b2 : (9223372036854775807 < ((⟨#[79, 103, 103, 83, 0]⟩ : ByteArray) ++ t360).size + t361.size) = False := eq_false (Nat.not_lt.2 c6)
      (try (have c6b2E := c6b2; simp only [ByteArray.size_append, show (⟨#[79, 103, 103, 83, 0]⟩ : ByteArray).size = 5 from rfl] at c6b2E))
      replace H := Option.bind_eq_some_iff.mp H
      obtain ⟨t362, A70, H⟩ := H
      replace H : (if (((⟨#[79, 103, 103, 83, 0]⟩ : ByteArray) ++ t360) ++ t361).size + t362.size ≤ 9223372036854775807 then ((diacriticref01_Small.f k a0_3 4).bind fun t363 => (if ((((⟨#[79, 103, 103, 83, 0]⟩ : ByteArray) ++ t360) ++ t361) ++ t362).size + t363.size ≤ 9223372036854775807 then (if (((((⟨#[79, 103, 103, 83, 0]⟩ : ByteArray) ++ t360) ++ t361) ++ t362) ++ t363).size + a1.size ≤ 9223372036854775807 then ((diacriticref01_Big.f k (IntKind.u64.wrap ((a0_4.size : Int))) 1).bind fun t364 => (if ((((((⟨#[79, 103, 103, 83, 0]⟩ : ByteArray) ++ t360) ++ t361) ++ t362) ++ t363) ++ a1).size + t364.size ≤ 9223372036854775807 then (if (((((((⟨#[79, 103, 103, 83, 0]⟩ : ByteArray) ++ t360) ++ t361) ++ t362) ++ t363) ++ a1) ++ t364).size + a0_4.size ≤ 9223372036854775807 then (if ((((((((⟨#[79, 103, 103, 83, 0]⟩ : ByteArray) ++ t360) ++ t361) ++ t362) ++ t363) ++ a1) ++ t364) ++ a0_4).size + a0_5.size ≤ 9223372036854775807 then (some (((((((((⟨#[79, 103, 103, 83, 0]⟩ : ByteArray) ++ t360) ++ t361) ++ t362) ++ t363) ++ a1) ++ t364) ++ a0_4) ++ a0_5)) else (none)) else (none)) else (none))) else (none)) else (none))) else (none)) = some r := H
      have A7 := Aside0.mk A70
      clear A70
      by_cases c8 : (((⟨#[79, 103, 103, 83, 0]⟩ : ByteArray) ++ t360) ++ t361).size + t362.size ≤ 9223372036854775807
      · rw [if_pos c8] at H
        have c8b0 := eq_true c8
        have c8b1 : decide ((((⟨#[79, 103, 103, 83, 0]⟩ : ByteArray) ++ t360) ++ t361).size + t362.size ≤ 9223372036854775807) = true := decide_eq_true c8
        try have c8b2 : (9223372036854775807 < (((⟨#[79, 103, 103, 83, 0]⟩ : ByteArray) ++ t360) ++ t361).size + t362.size) = False := eq_false (Nat.not_lt.2 c8)
        (try (have c8b2E := c8b2; simp only [ByteArray.size_append, show (⟨#[79, 103, 103, 83, 0]⟩ : ByteArray).size = 5 from rfl] at c8b2E))
        replace H := Option.bind_eq_some_iff.mp H
        obtain ⟨t363, A90, H⟩ := H
        replace H : (if ((((⟨#[79, 103, 103, 83, 0]⟩ : ByteArray) ++ t360) ++ t361) ++ t362).size + t363.size ≤ 9223372036854775807 then (if (((((⟨#[79, 103, 103, 83, 0]⟩ : ByteArray) ++ t360) ++ t361) ++ t362) ++ t363).size + a1.size ≤ 9223372036854775807 then ((diacriticref01_Big.f k (IntKind.u64.wrap ((a0_4.size : Int))) 1).bind fun t364 => (if ((((((⟨#[79, 103, 103, 83, 0]⟩ : ByteArray) ++ t360) ++ t361) ++ t362) ++ t363) ++ a1).size + t364.size ≤ 9223372036854775807 then (if (((((((⟨#[79, 103, 103, 83, 0]⟩ : ByteArray) ++ t360) ++ t361) ++ t362) ++ t363) ++ a1) ++ t364).size + a0_4.size ≤ 9223372036854775807 then (if ((((((((⟨#[79, 103, 103, 83, 0]⟩ : ByteArray) ++ t360) ++ t361) ++ t362) ++ t363) ++ a1) ++ t364) ++ a0_4).size + a0_5.size ≤ 9223372036854775807 then (some (((((((((⟨#[79, 103, 103, 83, 0]⟩ : ByteArray) ++ t360) ++ t361) ++ t362) ++ t363) ++ a1) ++ t364) ++ a0_4) ++ a0_5)) else (none)) else (none)) else (none))) else (none)) else (none)) = some r := H
        have A9 := Aside0.mk A90
        clear A90
        by_cases c10 : ((((⟨#[79, 103, 103, 83, 0]⟩ : ByteArray) ++ t360) ++ t361) ++ t362).size + t363.size ≤ 9223372036854775807
        · rw [if_pos c10] at H
          have c10b0 := eq_true c10
          have c10b1 : decide (((((⟨#[79, 103, 103, 83, 0]⟩ : ByteArray) ++ t360) ++ t361) ++ t362).size + t363.size ≤ 9223372036854775807) = true := decide_eq_true c10
          try have c10b2 : (9223372036854775807 < ((((⟨#[79, 103, 103, 83, 0]⟩ : ByteArray) ++ t360) ++ t361) ++ t362).size + t363.size) = False := eq_false (Nat.not_lt.2 c10)
          (try (have c10b2E := c10b2; simp only [ByteArray.size_append, show (⟨#[79, 103, 103, 83, 0]⟩ : ByteArray).size = 5 from rfl] at c10b2E))
          by_cases c11 : (((((⟨#[79, 103, 103, 83, 0]⟩ : ByteArray) ++ t360) ++ t361) ++ t362) ++ t363).size + a1.size ≤ 9223372036854775807
          · rw [if_pos c11] at H
            have c11b0 := eq_true c11
            have c11b1 : decide ((((((⟨#[79, 103, 103, 83, 0]⟩ : ByteArray) ++ t360) ++ t361) ++ t362) ++ t363).size + a1.size ≤ 9223372036854775807) = true := decide_eq_true c11
            try have c11b2 : (9223372036854775807 < (((((⟨#[79, 103, 103, 83, 0]⟩ : ByteArray) ++ t360) ++ t361) ++ t362) ++ t363).size + a1.size) = False := eq_false (Nat.not_lt.2 c11)
            (try (have c11b2E := c11b2; simp only [ByteArray.size_append, show (⟨#[79, 103, 103, 83, 0]⟩ : ByteArray).size = 5 from rfl] at c11b2E))
            replace H := Option.bind_eq_some_iff.mp H
            obtain ⟨t364, A120, H⟩ := H
            replace H : (if ((((((⟨#[79, 103, 103, 83, 0]⟩ : ByteArray) ++ t360) ++ t361) ++ t362) ++ t363) ++ a1).size + t364.size ≤ 9223372036854775807 then (if (((((((⟨#[79, 103, 103, 83, 0]⟩ : ByteArray) ++ t360) ++ t361) ++ t362) ++ t363) ++ a1) ++ t364).size + a0_4.size ≤ 9223372036854775807 then (if ((((((((⟨#[79, 103, 103, 83, 0]⟩ : ByteArray) ++ t360) ++ t361) ++ t362) ++ t363) ++ a1) ++ t364) ++ a0_4).size + a0_5.size ≤ 9223372036854775807 then (some (((((((((⟨#[79, 103, 103, 83, 0]⟩ : ByteArray) ++ t360) ++ t361) ++ t362) ++ t363) ++ a1) ++ t364) ++ a0_4) ++ a0_5)) else (none)) else (none)) else (none)) = some r := H
            have A12 := Aside0.mk A120
            clear A120
            by_cases c13 : ((((((⟨#[79, 103, 103, 83, 0]⟩ : ByteArray) ++ t360) ++ t361) ++ t362) ++ t363) ++ a1).size + t364.size ≤ 9223372036854775807
            · rw [if_pos c13] at H
              have c13b0 := eq_true c13
              have c13b1 : decide (((((((⟨#[79, 103, 103, 83, 0]⟩ : ByteArray) ++ t360) ++ t361) ++ t362) ++ t363) ++ a1).size + t364.size ≤ 9223372036854775807) = true := decide_eq_true c13
              try have c13b2 : (9223372036854775807 < ((((((⟨#[79, 103, 103, 83, 0]⟩ : ByteArray) ++ t360) ++ t361) ++ t362) ++ t363) ++ a1).size + t364.size) = False := eq_false (Nat.not_lt.2 c13)
              (try (have c13b2E := c13b2; simp only [ByteArray.size_append, show (⟨#[79, 103, 103, 83, 0]⟩ : ByteArray).size = 5 from rfl] at c13b2E))
              by_cases c14 : (((((((⟨#[79, 103, 103, 83, 0]⟩ : ByteArray) ++ t360) ++ t361) ++ t362) ++ t363) ++ a1) ++ t364).size + a0_4.size ≤ 9223372036854775807
              · rw [if_pos c14] at H
                have c14b0 := eq_true c14
                have c14b1 : decide ((((((((⟨#[79, 103, 103, 83, 0]⟩ : ByteArray) ++ t360) ++ t361) ++ t362) ++ t363) ++ a1) ++ t364).size + a0_4.size ≤ 9223372036854775807) = true := decide_eq_true c14
                try have c14b2 : (9223372036854775807 < (((((((⟨#[79, 103, 103, 83, 0]⟩ : ByteArray) ++ t360) ++ t361) ++ t362) ++ t363) ++ a1) ++ t364).size + a0_4.size) = False := eq_false (Nat.not_lt.2 c14)
                (try (have c14b2E := c14b2; simp only [ByteArray.size_append, show (⟨#[79, 103, 103, 83, 0]⟩ : ByteArray).size = 5 from rfl] at c14b2E))
                by_cases c15 : ((((((((⟨#[79, 103, 103, 83, 0]⟩ : ByteArray) ++ t360) ++ t361) ++ t362) ++ t363) ++ a1) ++ t364) ++ a0_4).size + a0_5.size ≤ 9223372036854775807
                · rw [if_pos c15] at H
                  have c15b0 := eq_true c15
                  have c15b1 : decide (((((((((⟨#[79, 103, 103, 83, 0]⟩ : ByteArray) ++ t360) ++ t361) ++ t362) ++ t363) ++ a1) ++ t364) ++ a0_4).size + a0_5.size ≤ 9223372036854775807) = true := decide_eq_true c15
                  try have c15b2 : (9223372036854775807 < ((((((((⟨#[79, 103, 103, 83, 0]⟩ : ByteArray) ++ t360) ++ t361) ++ t362) ++ t363) ++ a1) ++ t364) ++ a0_4).size + a0_5.size) = False := eq_false (Nat.not_lt.2 c15)
                  (try (have c15b2E := c15b2; simp only [ByteArray.size_append, show (⟨#[79, 103, 103, 83, 0]⟩ : ByteArray).size = 5 from rfl] at c15b2E))
                  obtain rfl := Option.some.inj H
                  go_enter Try.func50, Try.ntmps50
                  try go_wp2_with (first | ((with_reducible refine gate_dst (N := 2) rfl ?_); refine box_event ?hg (N := 2) ?hd (cs := #[.int .i64 a0_0, .int .u64 a0_1, .int .u64 a0_2, .int .u64 a0_3, .string a0_4, .string a0_5]) (t := 43) ?hr ?_; (case hd => rfl); (case hg => rfl); (case hr => first | (go_simp; done) | (go_simp; rfl)); intro gb359 hg w16 hbox hb; have n0_ := Aside0.mk (below_step (by repeat (first | (with_reducible first | exact HB.out | apply below_alloc | apply pw_below_drewN | apply below_drew1) | exact HB.out)) hb); have n1_ := Aside0.mk (hbox); have n2_ := Aside0.mk ((by rw [hg]; exact (below_size (by repeat (first | (with_reducible first | exact HB.out | apply below_alloc | apply pw_below_drewN | apply below_drew1) | exact HB.out))) : w.heap.size ≤ gb359)); have n3_ := Aside0.mk ((by rw [hg]; exact (below_size (by repeat (first | (with_reducible first | exact HB.out | apply below_alloc | apply pw_below_drewN | apply below_drew1) | exact HB.out))) : w.heap.size ≤ gb359)); clear HB; have HB := n0_; have BK359 := n1_; have GW359 := n2_; have GE359 := n3_; clear n0_ n1_ n2_ n3_; clear hb hbox hg))
                  have n0_ := Aside0.mk (blk_drew BK359.out)
                  have n1_ := Aside0.mk (below_drew1 HB.out)
                  clear BK359
                  clear HB
                  have BK359 := n0_
                  have HB := n1_
                  clear n0_ n1_
                  refine start_ (n := 32) (S := fun w' => w'.cell? ⟨gb359, 0, none⟩ = some (.int .i64 a0_0) ∧ w'.cell? ⟨gb359, 1, none⟩ = some (.int .u64 a0_1) ∧ w'.cell? ⟨gb359, 2, none⟩ = some (.int .u64 a0_2) ∧ w'.cell? ⟨gb359, 3, none⟩ = some (.int .u64 a0_3) ∧ w'.cell? ⟨gb359, 4, none⟩ = some (.string a0_4) ∧ w'.cell? ⟨gb359, 5, none⟩ = some (.string a0_5)) (ds := []) #[false, false, false, false, false, false, false, false, false, false, false, false, false, false, false, false, false, false, false, false, false, false, false, false, false, false, false, false, false, false, false, false] (by kernel_rfl) rfl rfl ⟨(blk_cell BK359.out 0).trans rfl, (blk_cell BK359.out 1).trans rfl, (blk_cell BK359.out 2).trans rfl, (blk_cell BK359.out 3).trans rfl, (blk_cell BK359.out 4).trans rfl, (blk_cell BK359.out 5).trans rfl⟩ (fun hHeld => ?_); refine with_tabW diacriticref17_with.tab1 diacriticref17_with.bits1 (fun HT_ HW_ => ?_)
                  generalize w16.drew = w17 at BK359 HB hHeld ⊢
                  refine pure_ (i := 0) (N := some 5) (v := ?_) (a' := ?_) #[true, false, false, false, false, false, false, false, false, false, false, false, false, false, false, false, false, false, false, false, false, false, false, false, false, false, false, false, false, false, false, false] rfl rfl (any_of HT_.out (by kernel_rfl)) (fun _ _ _ h => h) (Or.inl ⟨by rfl, ?_⟩) ?_ ?_
                  rotate_left
                  · intro w'
                    go_simp
                    with_reducible rfl
                  rotate_left
                  · simp only [Act.put, List.setIfInBounds_toArray, List.set_cons_zero, List.set_cons_succ, i64_w, i32_w]
                    rfl
                  refine pure_ (i := 5) (N := some 10) (v := ?_) (a' := ?_) #[true, false, false, false, false, true, false, false, false, false, false, false, false, false, false, false, false, false, false, false, false, false, false, false, false, false, false, false, false, false, false, false] rfl rfl (any_of HT_.out (by kernel_rfl)) (fun _ _ _ h => h) (Or.inl ⟨by rfl, ?_⟩) ?_ ?_
                  rotate_left
                  · intro w'
                    go_simp
                    with_reducible rfl
                  rotate_left
                  · simp only [Act.put, List.setIfInBounds_toArray, List.set_cons_zero, List.set_cons_succ, i64_w, i32_w]
                    rfl
                  refine pure_ (i := 9) (N := some 14) (v := ?_) (a' := ?_) #[true, false, false, false, false, true, false, false, false, true, false, false, false, false, false, false, false, false, false, false, false, false, false, false, false, false, false, false, false, false, false, false] rfl rfl (any_of HT_.out (by kernel_rfl)) (fun _ _ _ h => h) (Or.inl ⟨by rfl, ?_⟩) ?_ ?_
                  rotate_left
                  · intro w'
                    go_simp
                    with_reducible rfl
                  rotate_left
                  · simp only [Act.put, List.setIfInBounds_toArray, List.set_cons_zero, List.set_cons_succ, i64_w, i32_w]
                    rfl
                  refine pure_ (i := 13) (N := some 18) (v := ?_) (a' := ?_) #[true, false, false, false, false, true, false, false, false, true, false, false, false, true, false, false, false, false, false, false, false, false, false, false, false, false, false, false, false, false, false, false] rfl rfl (any_of HT_.out (by kernel_rfl)) (fun _ _ _ h => h) (Or.inl ⟨by rfl, ?_⟩) ?_ ?_
                  rotate_left
                  · intro w'
                    go_simp
                    with_reducible rfl
                  rotate_left
                  · simp only [Act.put, List.setIfInBounds_toArray, List.set_cons_zero, List.set_cons_succ, i64_w, i32_w]
                    rfl
                  refine pure_ (i := 17) (N := some 22) (v := ?_) (a' := ?_) #[true, false, false, false, false, true, false, false, false, true, false, false, false, true, false, false, false, true, false, false, false, false, false, false, false, false, false, false, false, false, false, false] rfl rfl (any_of HT_.out (by kernel_rfl)) (fun _ _ _ h => h) (Or.inl ⟨by rfl, ?_⟩) ?_ ?_
                  rotate_left
                  · intro w'
                    go_simp
                    with_reducible rfl
                  rotate_left
                  · simp only [Act.put, List.setIfInBounds_toArray, List.set_cons_zero, List.set_cons_succ, i64_w, i32_w]
                    rfl
                  refine pure_ (i := 19) (N := some 24) (v := ?_) (a' := ?_) #[true, false, false, false, false, true, false, false, false, true, false, false, false, true, false, false, false, true, false, true, false, false, false, false, false, false, false, false, false, false, false, false] rfl rfl (any_of HT_.out (by kernel_rfl)) (fun _ _ _ h => h) (Or.inl ⟨by rfl, ?_⟩) ?_ ?_
                  rotate_left
                  · intro w'
                    go_simp
                    with_reducible rfl
                  rotate_left
                  · simp only [Act.put, List.setIfInBounds_toArray, List.set_cons_zero, List.set_cons_succ, i64_w, i32_w]
                    rfl
                  refine pure_ (i := 25) (N := some 30) (v := ?_) (a' := ?_) #[true, false, false, false, false, true, false, false, false, true, false, false, false, true, false, false, false, true, false, true, false, false, false, false, false, true, false, false, false, false, false, false] rfl rfl (any_of HT_.out (by kernel_rfl)) (fun _ _ _ h => h) (Or.inl ⟨by rfl, ?_⟩) ?_ ?_
                  rotate_left
                  · intro w'
                    go_simp
                    with_reducible rfl
                  rotate_left
                  · simp only [Act.put, List.setIfInBounds_toArray, List.set_cons_zero, List.set_cons_succ, i64_w, i32_w]
                    rfl
                  refine pure_ (i := 28) (N := some 33) (v := ?_) (a' := ?_) #[true, false, false, false, false, true, false, false, false, true, false, false, false, true, false, false, false, true, false, true, false, false, false, false, false, true, false, false, true, false, false, false] rfl rfl (any_of HT_.out (by kernel_rfl)) (fun _ _ _ h => h) (Or.inl ⟨by rfl, ?_⟩) ?_ ?_
                  rotate_left
                  · intro w'
                    go_simp
                    with_reducible rfl
                  rotate_left
                  · simp only [Act.put, List.setIfInBounds_toArray, List.set_cons_zero, List.set_cons_succ, i64_w, i32_w]
                    rfl
                  refine take_ (i := 1) (N := some 6) (v := ?_) (a' := ?_) #[true, true, false, false, false, true, false, false, false, true, false, false, false, true, false, false, false, true, false, true, false, false, false, false, false, true, false, false, true, false, false, false] rfl rfl (take_ofW HT_.out HW_.out (by kernel_rfl)) (fun _ _ _ h => h) (Or.inl ⟨by rfl, ?_⟩) hHeld ?_ ?_
                  rotate_left
                  · rintro w' ⟨s0, s1, s2, s3, s4, s5⟩
                    go_simp
                    with_reducible rfl
                  rotate_left
                  · simp only [Act.put, List.setIfInBounds_toArray, List.set_cons_zero, List.set_cons_succ, i64_w, i32_w]
                    rfl
                  refine pure_ (i := 2) (N := some 7) (v := ?_) (a' := ?_) #[true, true, true, false, false, true, false, false, false, true, false, false, false, true, false, false, false, true, false, true, false, false, false, false, false, true, false, false, true, false, false, false] rfl rfl (any_of HT_.out (by kernel_rfl)) (fun _ _ _ h => h) (Or.inl ⟨by rfl, ?_⟩) ?_ ?_
                  rotate_left
                  · intro w'
                    go_simp
                    with_reducible rfl
                  rotate_left
                  · simp only [Act.put, List.setIfInBounds_toArray, List.set_cons_zero, List.set_cons_succ, i64_w, i32_w]
                    rfl
                  refine take_ (i := 6) (N := some 11) (v := ?_) (a' := ?_) #[true, true, true, false, false, true, true, false, false, true, false, false, false, true, false, false, false, true, false, true, false, false, false, false, false, true, false, false, true, false, false, false] rfl rfl (take_ofW HT_.out HW_.out (by kernel_rfl)) (fun _ _ _ h => h) (Or.inl ⟨by rfl, ?_⟩) hHeld ?_ ?_
                  rotate_left
                  · rintro w' ⟨s0, s1, s2, s3, s4, s5⟩
                    go_simp
                    with_reducible rfl
                  rotate_left
                  · simp only [Act.put, List.setIfInBounds_toArray, List.set_cons_zero, List.set_cons_succ, i64_w, i32_w]
                    rfl
                  refine take_ (i := 10) (N := some 15) (v := ?_) (a' := ?_) #[true, true, true, false, false, true, true, false, false, true, true, false, false, true, false, false, false, true, false, true, false, false, false, false, false, true, false, false, true, false, false, false] rfl rfl (take_ofW HT_.out HW_.out (by kernel_rfl)) (fun _ _ _ h => h) (Or.inl ⟨by rfl, ?_⟩) hHeld ?_ ?_
                  rotate_left
                  · rintro w' ⟨s0, s1, s2, s3, s4, s5⟩
                    go_simp
                    with_reducible rfl
                  rotate_left
                  · simp only [Act.put, List.setIfInBounds_toArray, List.set_cons_zero, List.set_cons_succ, i64_w, i32_w]
                    rfl
                  refine take_ (i := 14) (N := some 19) (v := ?_) (a' := ?_) #[true, true, true, false, false, true, true, false, false, true, true, false, false, true, true, false, false, true, false, true, false, false, false, false, false, true, false, false, true, false, false, false] rfl rfl (take_ofW HT_.out HW_.out (by kernel_rfl)) (fun _ _ _ h => h) (Or.inl ⟨by rfl, ?_⟩) hHeld ?_ ?_
                  rotate_left
                  · rintro w' ⟨s0, s1, s2, s3, s4, s5⟩
                    go_simp
                    with_reducible rfl
                  rotate_left
                  · simp only [Act.put, List.setIfInBounds_toArray, List.set_cons_zero, List.set_cons_succ, i64_w, i32_w]
                    rfl
                  refine take_ (i := 20) (N := some 25) (v := ?_) (a' := ?_) #[true, true, true, false, false, true, true, false, false, true, true, false, false, true, true, false, false, true, false, true, true, false, false, false, false, true, false, false, true, false, false, false] rfl rfl (take_ofW HT_.out HW_.out (by kernel_rfl)) (fun _ _ _ h => h) (Or.inl ⟨by rfl, ?_⟩) hHeld ?_ ?_
                  rotate_left
                  · rintro w' ⟨s0, s1, s2, s3, s4, s5⟩
                    go_simp
                    with_reducible rfl
                  rotate_left
                  · simp only [Act.put, List.setIfInBounds_toArray, List.set_cons_zero, List.set_cons_succ, i64_w, i32_w]
                    rfl
                  refine pure_ (i := 21) (N := some 26) (v := ?_) (a' := ?_) #[true, true, true, false, false, true, true, false, false, true, true, false, false, true, true, false, false, true, false, true, true, true, false, false, false, true, false, false, true, false, false, false] rfl rfl (any_of HT_.out (by kernel_rfl)) (fun _ _ _ h => h) (Or.inl ⟨by rfl, ?_⟩) ?_ ?_
                  rotate_left
                  · intro w'
                    go_simp
                    with_reducible rfl
                  rotate_left
                  · simp only [Act.put, List.setIfInBounds_toArray, List.set_cons_zero, List.set_cons_succ, i64_w, i32_w]
                    rfl
                  refine pure_ (i := 22) (N := some 27) (v := ?_) (a' := ?_) #[true, true, true, false, false, true, true, false, false, true, true, false, false, true, true, false, false, true, false, true, true, true, true, false, false, true, false, false, true, false, false, false] rfl rfl (any_of HT_.out (by kernel_rfl)) (fun _ _ _ h => h) (Or.inl ⟨by rfl, ?_⟩) ?_ ?_
                  rotate_left
                  · intro w'
                    go_simp
                    with_reducible rfl
                  rotate_left
                  · simp only [Act.put, List.setIfInBounds_toArray, List.set_cons_zero, List.set_cons_succ, i64_w, i32_w]
                    rfl
                  refine take_ (i := 26) (N := some 31) (v := ?_) (a' := ?_) #[true, true, true, false, false, true, true, false, false, true, true, false, false, true, true, false, false, true, false, true, true, true, true, false, false, true, true, false, true, false, false, false] rfl rfl (take_ofW HT_.out HW_.out (by kernel_rfl)) (fun _ _ _ h => h) (Or.inl ⟨by rfl, ?_⟩) hHeld ?_ ?_
                  rotate_left
                  · rintro w' ⟨s0, s1, s2, s3, s4, s5⟩
                    go_simp
                    with_reducible rfl
                  rotate_left
                  · simp only [Act.put, List.setIfInBounds_toArray, List.set_cons_zero, List.set_cons_succ, i64_w, i32_w]
                    rfl
                  refine take_ (i := 29) (N := some 34) (v := ?_) (a' := ?_) #[true, true, true, false, false, true, true, false, false, true, true, false, false, true, true, false, false, true, false, true, true, true, true, false, false, true, true, false, true, true, false, false] rfl rfl (take_ofW HT_.out HW_.out (by kernel_rfl)) (fun _ _ _ h => h) (Or.inl ⟨by rfl, ?_⟩) hHeld ?_ ?_
                  rotate_left
                  · rintro w' ⟨s0, s1, s2, s3, s4, s5⟩
                    go_simp
                    with_reducible rfl
                  rotate_left
                  · simp only [Act.put, List.setIfInBounds_toArray, List.set_cons_zero, List.set_cons_succ, i64_w, i32_w]
                    rfl
                  refine one_ (i := 3) (N := some 8) #[true, true, true, true, false, true, true, false, false, true, true, false, false, true, true, false, false, true, false, true, true, true, true, false, false, true, true, false, true, true, false, false] rfl rfl (one_of HT_.out (by kernel_rfl)) (by decide) (fun K hK => ?_)
                  refine goes_ Try.func62 (by kernel_rfl) rfl #[.int .u64 (IntKind.u64.wrap (a0_0)), .int .i64 1] (by rfl) rfl rfl (by (try simp only [List.map_toArray, List.map_cons, List.map_nil]); first | done | rfl | (simp only [List.length_drop, List.length_take]; rfl)) ?_
                  with_reducible refine (diacriticref01_Big.calls k (IntKind.u64.wrap (a0_0)) 1 t360 _ A3.out).mono ?_
                  rintro e w18 ⟨rfl, hb⟩
                  refine ⟨_, rfl, ?_⟩
                  have n0_ := Aside0.mk (blk_below (g := gb359) (o := .cells #[.int .i64 a0_0, .int .u64 a0_1, .int .u64 a0_2, .int .u64 a0_3, .string a0_4, .string a0_5] 43 (0, 0)) (by (with_reducible repeat (first | refine blk_drewN ?_ _ | refine blk_drew ?_ | refine blk_alloc ?_ _)); exact BK359.out) hb)
                  have n1_ := Aside0.mk (below_step (by repeat (first | (with_reducible first | exact HB.out | apply below_alloc | apply pw_below_drewN | apply below_drew1 | refine below_set ?_ GE359.out) | exact HB.out)) hb)
                  clear BK359
                  clear HB
                  have BK359 := n0_
                  have HB := n1_
                  clear n0_ n1_
                  (try clear hb)
                  (try clear hb2)
                  (try clear hk)
                  (try clear hi)
                  refine hK.out _ _ ⟨(blk_cell BK359.out 0).trans rfl, (blk_cell BK359.out 1).trans rfl, (blk_cell BK359.out 2).trans rfl, (blk_cell BK359.out 3).trans rfl, (blk_cell BK359.out 4).trans rfl, (blk_cell BK359.out 5).trans rfl⟩ (fun hHeld => ?_)
                  clear hK K
                  refine norm_ (a' := ?_) ?_ ?_
                  rotate_left
                  · show Act.put _ (some 8) _ = _
                    simp only [Act.put, List.setIfInBounds_toArray, List.set_cons_zero, List.set_cons_succ, i64_w, i32_w]
                    rfl
                  refine pure_ (i := 4) (N := some 9) (v := ?_) (a' := ?_) #[true, true, true, true, true, true, true, false, false, true, true, false, false, true, true, false, false, true, false, true, true, true, true, false, false, true, true, false, true, true, false, false] rfl rfl (any_of HT_.out (by kernel_rfl)) (fun _ _ _ h => h) (Or.inl ⟨by rfl, ?_⟩) ?_ ?_
                  rotate_left
                  · intro w'
                    go_simp
                    with_reducible rfl
                  rotate_left
                  · simp only [Act.put, List.setIfInBounds_toArray, List.set_cons_zero, List.set_cons_succ, i64_w, i32_w]
                    rfl
                  refine one_ (i := 7) (N := some 12) #[true, true, true, true, true, true, true, true, false, true, true, false, false, true, true, false, false, true, false, true, true, true, true, false, false, true, true, false, true, true, false, false] rfl rfl (one_of HT_.out (by kernel_rfl)) (by decide) (fun K hK => ?_)
                  refine goes_ Try.func51 (by kernel_rfl) rfl #[.int .u64 a0_1, .int .i64 8] (by rfl) rfl rfl (by (try simp only [List.map_toArray, List.map_cons, List.map_nil]); first | done | rfl | (simp only [List.length_drop, List.length_take]; rfl)) ?_
                  with_reducible refine (diacriticref01_Small.calls k a0_1 8 t361 _ A5.out).mono ?_
                  rintro e w19 ⟨rfl, hb⟩
                  refine ⟨_, rfl, ?_⟩
                  have n0_ := Aside0.mk (blk_below (g := gb359) (o := .cells #[.int .i64 a0_0, .int .u64 a0_1, .int .u64 a0_2, .int .u64 a0_3, .string a0_4, .string a0_5] 43 (0, 0)) (by (with_reducible repeat (first | refine blk_drewN ?_ _ | refine blk_drew ?_ | refine blk_alloc ?_ _)); exact BK359.out) hb)
                  have n1_ := Aside0.mk (below_step (by repeat (first | (with_reducible first | exact HB.out | apply below_alloc | apply pw_below_drewN | apply below_drew1 | refine below_set ?_ GE359.out) | exact HB.out)) hb)
                  clear BK359
                  clear HB
                  have BK359 := n0_
                  have HB := n1_
                  clear n0_ n1_
                  (try clear hb)
                  (try clear hb2)
                  (try clear hk)
                  (try clear hi)
                  refine hK.out _ _ ⟨(blk_cell BK359.out 0).trans rfl, (blk_cell BK359.out 1).trans rfl, (blk_cell BK359.out 2).trans rfl, (blk_cell BK359.out 3).trans rfl, (blk_cell BK359.out 4).trans rfl, (blk_cell BK359.out 5).trans rfl⟩ (fun hHeld => ?_)
                  clear hK K
                  refine norm_ (a' := ?_) ?_ ?_
                  rotate_left
                  · show Act.put _ (some 12) _ = _
                    simp only [Act.put, List.setIfInBounds_toArray, List.set_cons_zero, List.set_cons_succ, i64_w, i32_w]
                    rfl
                  refine pure_ (i := 8) (N := some 13) (v := ?_) (a' := ?_) #[true, true, true, true, true, true, true, true, true, true, true, false, false, true, true, false, false, true, false, true, true, true, true, false, false, true, true, false, true, true, false, false] rfl rfl (any_of HT_.out (by kernel_rfl)) (fun _ _ _ h => h) (Or.inl ⟨by rfl, ?_⟩) ?_ ?_
                  rotate_left
                  · intro w'
                    go_simp
                    with_reducible rfl
                  rotate_left
                  · simp only [Act.put, List.setIfInBounds_toArray, List.set_cons_zero, List.set_cons_succ, i64_w, i32_w]
                    rfl
                  refine one_ (i := 11) (N := some 16) #[true, true, true, true, true, true, true, true, true, true, true, true, false, true, true, false, false, true, false, true, true, true, true, false, false, true, true, false, true, true, false, false] rfl rfl (one_of HT_.out (by kernel_rfl)) (by decide) (fun K hK => ?_)
                  refine goes_ Try.func51 (by kernel_rfl) rfl #[.int .u64 a0_2, .int .i64 4] (by rfl) rfl rfl (by (try simp only [List.map_toArray, List.map_cons, List.map_nil]); first | done | rfl | (simp only [List.length_drop, List.length_take]; rfl)) ?_
                  with_reducible refine (diacriticref01_Small.calls k a0_2 4 t362 _ A7.out).mono ?_
                  rintro e w20 ⟨rfl, hb⟩
                  refine ⟨_, rfl, ?_⟩
                  have n0_ := Aside0.mk (blk_below (g := gb359) (o := .cells #[.int .i64 a0_0, .int .u64 a0_1, .int .u64 a0_2, .int .u64 a0_3, .string a0_4, .string a0_5] 43 (0, 0)) (by (with_reducible repeat (first | refine blk_drewN ?_ _ | refine blk_drew ?_ | refine blk_alloc ?_ _)); exact BK359.out) hb)
                  have n1_ := Aside0.mk (below_step (by repeat (first | (with_reducible first | exact HB.out | apply below_alloc | apply pw_below_drewN | apply below_drew1 | refine below_set ?_ GE359.out) | exact HB.out)) hb)
                  clear BK359
                  clear HB
                  have BK359 := n0_
                  have HB := n1_
                  clear n0_ n1_
                  (try clear hb)
                  (try clear hb2)
                  (try clear hk)
                  (try clear hi)
                  refine hK.out _ _ ⟨(blk_cell BK359.out 0).trans rfl, (blk_cell BK359.out 1).trans rfl, (blk_cell BK359.out 2).trans rfl, (blk_cell BK359.out 3).trans rfl, (blk_cell BK359.out 4).trans rfl, (blk_cell BK359.out 5).trans rfl⟩ (fun hHeld => ?_)
                  clear hK K
                  refine norm_ (a' := ?_) ?_ ?_
                  rotate_left
                  · show Act.put _ (some 16) _ = _
                    simp only [Act.put, List.setIfInBounds_toArray, List.set_cons_zero, List.set_cons_succ, i64_w, i32_w]
                    rfl
                  refine pure_ (i := 12) (N := some 17) (v := ?_) (a' := ?_) #[true, true, true, true, true, true, true, true, true, true, true, true, true, true, true, false, false, true, false, true, true, true, true, false, false, true, true, false, true, true, false, false] rfl rfl (any_of HT_.out (by kernel_rfl)) (fun _ _ _ h => h) (Or.inl ⟨by rfl, ?_⟩) ?_ ?_
                  rotate_left
                  · intro w'
                    go_simp
                    with_reducible rfl
                  rotate_left
                  · simp only [Act.put, List.setIfInBounds_toArray, List.set_cons_zero, List.set_cons_succ, i64_w, i32_w]
                    rfl
                  refine one_ (i := 15) (N := some 20) #[true, true, true, true, true, true, true, true, true, true, true, true, true, true, true, true, false, true, false, true, true, true, true, false, false, true, true, false, true, true, false, false] rfl rfl (one_of HT_.out (by kernel_rfl)) (by decide) (fun K hK => ?_)
                  refine goes_ Try.func51 (by kernel_rfl) rfl #[.int .u64 a0_3, .int .i64 4] (by rfl) rfl rfl (by (try simp only [List.map_toArray, List.map_cons, List.map_nil]); first | done | rfl | (simp only [List.length_drop, List.length_take]; rfl)) ?_
                  with_reducible refine (diacriticref01_Small.calls k a0_3 4 t363 _ A9.out).mono ?_
                  rintro e w21 ⟨rfl, hb⟩
                  refine ⟨_, rfl, ?_⟩
                  have n0_ := Aside0.mk (blk_below (g := gb359) (o := .cells #[.int .i64 a0_0, .int .u64 a0_1, .int .u64 a0_2, .int .u64 a0_3, .string a0_4, .string a0_5] 43 (0, 0)) (by (with_reducible repeat (first | refine blk_drewN ?_ _ | refine blk_drew ?_ | refine blk_alloc ?_ _)); exact BK359.out) hb)
                  have n1_ := Aside0.mk (below_step (by repeat (first | (with_reducible first | exact HB.out | apply below_alloc | apply pw_below_drewN | apply below_drew1 | refine below_set ?_ GE359.out) | exact HB.out)) hb)
                  clear BK359
                  clear HB
                  have BK359 := n0_
                  have HB := n1_
                  clear n0_ n1_
                  (try clear hb)
                  (try clear hb2)
                  (try clear hk)
                  (try clear hi)
                  refine hK.out _ _ ⟨(blk_cell BK359.out 0).trans rfl, (blk_cell BK359.out 1).trans rfl, (blk_cell BK359.out 2).trans rfl, (blk_cell BK359.out 3).trans rfl, (blk_cell BK359.out 4).trans rfl, (blk_cell BK359.out 5).trans rfl⟩ (fun hHeld => ?_)
                  clear hK K
                  refine norm_ (a' := ?_) ?_ ?_
                  rotate_left
                  · show Act.put _ (some 20) _ = _
                    simp only [Act.put, List.setIfInBounds_toArray, List.set_cons_zero, List.set_cons_succ, i64_w, i32_w]
                    rfl
                  refine pure_ (i := 16) (N := some 21) (v := ?_) (a' := ?_) #[true, true, true, true, true, true, true, true, true, true, true, true, true, true, true, true, true, true, false, true, true, true, true, false, false, true, true, false, true, true, false, false] rfl rfl (any_of HT_.out (by kernel_rfl)) (fun _ _ _ h => h) (Or.inl ⟨by rfl, ?_⟩) ?_ ?_
                  rotate_left
                  · intro w'
                    go_simp
                    with_reducible rfl
                  rotate_left
                  · simp only [Act.put, List.setIfInBounds_toArray, List.set_cons_zero, List.set_cons_succ, i64_w, i32_w]
                    rfl
                  refine pure_ (i := 18) (N := some 23) (v := ?_) (a' := ?_) #[true, true, true, true, true, true, true, true, true, true, true, true, true, true, true, true, true, true, true, true, true, true, true, false, false, true, true, false, true, true, false, false] rfl rfl (any_of HT_.out (by kernel_rfl)) (fun _ _ _ h => h) (Or.inl ⟨by rfl, ?_⟩) ?_ ?_
                  rotate_left
                  · intro w'
                    go_simp
                    with_reducible rfl
                  rotate_left
                  · simp only [Act.put, List.setIfInBounds_toArray, List.set_cons_zero, List.set_cons_succ, i64_w, i32_w]
                    rfl
                  refine one_ (i := 23) (N := some 28) #[true, true, true, true, true, true, true, true, true, true, true, true, true, true, true, true, true, true, true, true, true, true, true, true, false, true, true, false, true, true, false, false] rfl rfl (one_of HT_.out (by kernel_rfl)) (by decide) (fun K hK => ?_)
                  refine goes_ Try.func62 (by kernel_rfl) rfl #[.int .u64 (IntKind.u64.wrap ((a0_4.size : Int))), .int .i64 1] (by rfl) rfl rfl (by (try simp only [List.map_toArray, List.map_cons, List.map_nil]); first | done | rfl | (simp only [List.length_drop, List.length_take]; rfl)) ?_
                  with_reducible refine (diacriticref01_Big.calls k (IntKind.u64.wrap ((a0_4.size : Int))) 1 t364 _ A12.out).mono ?_
                  rintro e w22 ⟨rfl, hb⟩
                  refine ⟨_, rfl, ?_⟩
                  have n0_ := Aside0.mk (blk_below (g := gb359) (o := .cells #[.int .i64 a0_0, .int .u64 a0_1, .int .u64 a0_2, .int .u64 a0_3, .string a0_4, .string a0_5] 43 (0, 0)) (by (with_reducible repeat (first | refine blk_drewN ?_ _ | refine blk_drew ?_ | refine blk_alloc ?_ _)); exact BK359.out) hb)
                  have n1_ := Aside0.mk (below_step (by repeat (first | (with_reducible first | exact HB.out | apply below_alloc | apply pw_below_drewN | apply below_drew1 | refine below_set ?_ GE359.out) | exact HB.out)) hb)
                  clear BK359
                  clear HB
                  have BK359 := n0_
                  have HB := n1_
                  clear n0_ n1_
                  (try clear hb)
                  (try clear hb2)
                  (try clear hk)
                  (try clear hi)
                  refine hK.out _ _ ⟨(blk_cell BK359.out 0).trans rfl, (blk_cell BK359.out 1).trans rfl, (blk_cell BK359.out 2).trans rfl, (blk_cell BK359.out 3).trans rfl, (blk_cell BK359.out 4).trans rfl, (blk_cell BK359.out 5).trans rfl⟩ (fun hHeld => ?_)
                  clear hK K
                  refine norm_ (a' := ?_) ?_ ?_
                  rotate_left
                  · show Act.put _ (some 28) _ = _
                    simp only [Act.put, List.setIfInBounds_toArray, List.set_cons_zero, List.set_cons_succ, i64_w, i32_w]
                    rfl
                  refine pure_ (i := 24) (N := some 29) (v := ?_) (a' := ?_) #[true, true, true, true, true, true, true, true, true, true, true, true, true, true, true, true, true, true, true, true, true, true, true, true, true, true, true, false, true, true, false, false] rfl rfl (any_of HT_.out (by kernel_rfl)) (fun _ _ _ h => h) (Or.inl ⟨by rfl, ?_⟩) ?_ ?_
                  rotate_left
                  · intro w'
                    go_simp
                    with_reducible rfl
                  rotate_left
                  · simp only [Act.put, List.setIfInBounds_toArray, List.set_cons_zero, List.set_cons_succ, i64_w, i32_w]
                    rfl
                  refine pure_ (i := 27) (N := some 32) (v := ?_) (a' := ?_) #[true, true, true, true, true, true, true, true, true, true, true, true, true, true, true, true, true, true, true, true, true, true, true, true, true, true, true, true, true, true, false, false] rfl rfl (any_of HT_.out (by kernel_rfl)) (fun _ _ _ h => h) (Or.inl ⟨by rfl, ?_⟩) ?_ ?_
                  rotate_left
                  · intro w'
                    go_simp
                    with_reducible rfl
                  rotate_left
                  · simp only [Act.put, List.setIfInBounds_toArray, List.set_cons_zero, List.set_cons_succ, i64_w, i32_w]
                    rfl
                  refine pure_ (i := 30) (N := some 35) (v := ?_) (a' := ?_) #[true, true, true, true, true, true, true, true, true, true, true, true, true, true, true, true, true, true, true, true, true, true, true, true, true, true, true, true, true, true, true, false] rfl rfl (any_of HT_.out (by kernel_rfl)) (fun _ _ _ h => h) (Or.inl ⟨by rfl, ?_⟩) ?_ ?_
                  rotate_left
                  · intro w'
                    go_simp
                    with_reducible rfl
                  rotate_left
                  · simp only [Act.put, List.setIfInBounds_toArray, List.set_cons_zero, List.set_cons_succ, i64_w, i32_w]
                    rfl
                  refine pure_ (i := 31) (N := some 4) (v := ?_) (a' := ?_) #[true, true, true, true, true, true, true, true, true, true, true, true, true, true, true, true, true, true, true, true, true, true, true, true, true, true, true, true, true, true, true, true] rfl rfl (any_of HT_.out (by kernel_rfl)) (fun _ _ _ h => h) (Or.inl ⟨by rfl, ?_⟩) ?_ ?_
                  rotate_left
                  · intro w'
                    go_simp
                    with_reducible rfl
                  rotate_left
                  · simp only [Act.put, List.setIfInBounds_toArray, List.set_cons_zero, List.set_cons_succ, i64_w, i32_w]
                    rfl
                  refine done_ (done_of HT_.out (by kernel_rfl)) ?_
                  try go_wp2
                  go_ret
                  exact ⟨by first | rfl | (simp [errW_none, errW_some] <;> rfl) | (simp [*, errW_none, errW_some] <;> rfl), by repeat (first | (with_reducible first | exact HB.out | apply below_alloc | apply pw_below_drewN | apply below_drew1 | refine below_set ?_ GE359.out) | exact HB.out)⟩
                · rw [if_neg c15] at H
                  exact absurd H (by simp)
              · rw [if_neg c14] at H
                exact absurd H (by simp)
            · rw [if_neg c13] at H
              exact absurd H (by simp)
          · rw [if_neg c11] at H
            exact absurd H (by simp)
        · rw [if_neg c10] at H
          exact absurd H (by simp)
      · rw [if_neg c8] at H
        exact absurd H (by simp)
    · rw [if_neg c6] at H
      exact absurd H (by simp)
  · rw [if_neg c4] at H
    exact absurd H (by simp)

end Go.Proofs.Ytmfamkkikiglmaa.PAll
