/- Written by a program of this session: functions of the Go program as Lean functions, and the walks that tie them to it. -/
import Derived.Test.YtkcckhlkaknggaaPAllx0
import Derived.Test.YtkcckhlkaknggaaPAllx2
import Derived.Test.YtkcckhlkaknggaaPAllx3
import Derived.Test.YtkcckhlkaknggaaPAllx4
import Derived.Test.YtkcckhlkaknggaaPAllx7
import Derived.Test.YtkcckhlkaknggaaPAllx8
import Derived.Test.YtkcckhlkaknggaaPAllx10
import Derived.Test.YtkcckhlkaknggaaPAllx11
import Derived.Test.YtkcckhlkaknggaaPAllx12
import Derived.Test.YtkcckhlkaknggaaPAllx13
import Derived.Test.YtkcckhlkaknggaaPAllx14
namespace Go.Proofs.Ytkcckhlkaknggaa.PAll
open Go.RowKit Go.Proofs.YtkcckhlkaknggaaW.PrintWords Go.Proofs.YtkcckhlkaknggaaW.PrintLast Go.Proofs.YtkcckhlkaknggaaW.PrintMore
attribute [local go_sem] max2_int min2_int max_two min_two max_three min_three max_four min_four   -- for this text's walks alone
set_option linter.unusedVariables false
set_option linter.unusedSimpArgs false

/-! ### diacriticlaw01_do: function 34 -/
def diacriticlaw01_do.f (k : Nat) (s0_0 : ByteArray) (s0_1 : Int) (s0_2 : Int) (s0_3 : Int) (s0_4 : Int) (a1_0 : ByteArray) (a1_1 : Int) (a1_2 : Int) (a1_3 : Int) (a1_4 : Int) (a2_0 : Int) (a2_1 : Int) (a2_2 : Int) (a2_3 : ByteArray) : Option (ByteArray × Int × Int × Int × Int × Bool × ByteArray × Int × Int × Int × Int) := if a2_0 = 0 then ((diacriticref01_Take.f a1_0 a1_1 a1_2 a1_3 a1_4 a2_1).bind fun bt356 => ((octet_In_Take.f s0_0 s0_1 s0_2 s0_3 s0_4 a2_1).bind fun bt363 => (some (bt356.1, bt356.2.1, bt356.2.2.1, bt356.2.2.2.1, bt356.2.2.2.2.1, (bt363.1.toList == bt356.2.2.2.2.2.toList), bt363.2.1, bt363.2.2.1, bt363.2.2.2.1, bt363.2.2.2.2.1, bt363.2.2.2.2.2)))) else (if a2_0 = 1 then ((diacriticref01_Left.f a1_0 a1_1 a1_2 a1_3 a1_4).bind fun t369 => ((diacriticref01_Take.f a1_0 a1_1 a1_2 a1_3 a1_4 t369).bind fun bt370 => ((octet_In_Rest.f s0_0 s0_1 s0_2 s0_3 s0_4).bind fun bt377 => (some (bt370.1, bt370.2.1, bt370.2.2.1, bt370.2.2.2.1, bt370.2.2.2.2.1, (bt377.1.toList == bt370.2.2.2.2.2.toList), bt377.2.1, bt377.2.2.1, bt377.2.2.2.1, bt377.2.2.2.2.1, bt377.2.2.2.2.2))))) else (if a2_0 = 2 then ((octet_In_Peek.f s0_0 s0_1 s0_2 s0_3 s0_4 a2_1).bind fun bt383 => ((diacriticref01_Peek.f k a1_0 a1_1 a1_2 a1_3 a1_4 a2_1).bind fun t389 => (some (a1_0, a1_1, a1_2, a1_3, a1_4, (bt383.1.toList == t389.toList), bt383.2.1, bt383.2.2.1, bt383.2.2.2.1, bt383.2.2.2.2.1, bt383.2.2.2.2.2)))) else (if a2_0 = 3 then ((diacriticref01_Size.f a2_1).bind fun t390 => ((diacriticref01_Take.f a1_0 a1_1 a1_2 a1_3 a1_4 t390).bind fun bt391 => ((octet_In_Big.f s0_0 s0_1 s0_2 s0_3 s0_4 a2_1).bind fun bt398 => ((diacriticref01_Number.f k bt391.2.2.2.2.2).bind fun t404 => (some (bt391.1, bt391.2.1, bt391.2.2.1, bt391.2.2.2.1, bt391.2.2.2.2.1, (bt398.1 == t404), bt398.2.1, bt398.2.2.1, bt398.2.2.2.1, bt398.2.2.2.2.1, bt398.2.2.2.2.2)))))) else (if a2_0 = 4 then ((diacriticref01_Size.f a2_1).bind fun t405 => ((diacriticref01_Take.f a1_0 a1_1 a1_2 a1_3 a1_4 t405).bind fun bt406 => ((octet_In_Small.f s0_0 s0_1 s0_2 s0_3 s0_4 a2_1).bind fun bt413 => ((diacriticref01_Back.f k bt406.2.2.2.2.2).bind fun t419 => ((diacriticref01_Number.f k t419).bind fun t420 => (some (bt406.1, bt406.2.1, bt406.2.2.1, bt406.2.2.2.1, bt406.2.2.2.2.1, (bt413.1 == t420), bt413.2.1, bt413.2.2.1, bt413.2.2.2.1, bt413.2.2.2.2.1, bt413.2.2.2.2.2))))))) else (if a2_0 = 5 then ((diacriticref01_ReadSafe.f k a1_0 a1_1 a1_2 a1_3 a1_4).bind fun bt421 => ((octet_In_Safe.f s0_0 s0_1 s0_2 s0_3 s0_4).bind fun bt428 => (some (bt421.1, bt421.2.1, bt421.2.2.1, bt421.2.2.2.1, bt421.2.2.2.2.1, (bt428.1 == bt421.2.2.2.2.2), bt428.2.1, bt428.2.2.1, bt428.2.2.2.1, bt428.2.2.2.2.1, bt428.2.2.2.2.2)))) else (if a2_0 = 6 then ((diacriticref01_Want.f k a1_0 a1_1 a1_2 a1_3 a1_4 a2_3).bind fun bt434 => ((octet_In_Want.f k s0_0 s0_1 s0_2 s0_3 s0_4 a2_3).bind fun bt441 => (some (bt434.1, bt434.2.1, bt434.2.2.1, bt434.2.2.2.1, bt434.2.2.2.2.1, (bt441.1 == bt434.2.2.2.2.2), bt441.2.1, bt441.2.2.1, bt441.2.2.2.1, bt441.2.2.2.2.1, bt441.2.2.2.2.2)))) else (if a2_0 = 7 then ((diacriticref01_Until.f k a1_0 a1_1 a1_2 a1_3 a1_4 a2_3).bind fun bt447 => ((octet_In_Until.f s0_0 s0_1 s0_2 s0_3 s0_4 a2_3).bind fun bt454 => (some (bt447.1, bt447.2.1, bt447.2.2.1, bt447.2.2.2.1, bt447.2.2.2.2.1, (bt454.1.toList == bt447.2.2.2.2.2.toList), bt454.2.1, bt454.2.2.1, bt454.2.2.2.1, bt454.2.2.2.2.1, bt454.2.2.2.2.2)))) else (if a2_0 = 8 then ((octet_In_Fail.f s0_0 s0_1 s0_2 s0_3 s0_4 a2_2 a2_1).bind fun bt460 => ((diacriticref01_Fail.f a1_0 a1_1 a1_2 a1_3 a1_4 a2_2 a2_1).bind fun bt465 => (some (bt465.1, bt465.2.1, bt465.2.2.1, bt465.2.2.2.1, bt465.2.2.2.2, true, bt460.1, bt460.2.1, bt460.2.2.1, bt460.2.2.2.1, bt460.2.2.2.2)))) else (some (a1_0, a1_1, a1_2, a1_3, a1_4, true, s0_0, s0_1, s0_2, s0_3, s0_4))))))))))
theorem diacriticlaw01_do.mono : ∀ a0 a1 a2 a3 a4 a5 a6 a7 a8 a9 a10 a11 a12 a13 k, LeO (diacriticlaw01_do.f k a0 a1 a2 a3 a4 a5 a6 a7 a8 a9 a10 a11 a12 a13) (diacriticlaw01_do.f (k + 1) a0 a1 a2 a3 a4 a5 a6 a7 a8 a9 a10 a11 a12 a13) := by
  intro a0 a1 a2 a3 a4 a5 a6 a7 a8 a9 a10 a11 a12 a13 k
  unfold diacriticlaw01_do.f
  repeat' first
      | (with_reducible exact diacriticref01_Back.mono _ _)
      | (with_reducible exact diacriticref01_Number.mono _ _)
      | (with_reducible exact diacriticref01_Peek.mono _ _ _ _ _ _ _)
      | (with_reducible exact diacriticref01_ReadSafe.mono _ _ _ _ _ _)
      | (with_reducible exact diacriticref01_Until.mono _ _ _ _ _ _ _)
      | (with_reducible exact diacriticref01_Want.mono _ _ _ _ _ _ _)
      | (with_reducible exact octet_In_Want.mono _ _ _ _ _ _ _)
      | (with_reducible exact LeO.refl _)
      | (with_reducible exact LeO.none _)
      | (with_reducible refine LeO.ite ?_ ?_)
      | (with_reducible refine LeO.bind ?_ (fun _ => ?_))
      | exact diacriticref01_Back.mono _ _
      | exact diacriticref01_Number.mono _ _
      | exact diacriticref01_Peek.mono _ _ _ _ _ _ _
      | exact diacriticref01_ReadSafe.mono _ _ _ _ _ _
      | exact diacriticref01_Until.mono _ _ _ _ _ _ _
      | exact diacriticref01_Want.mono _ _ _ _ _ _ _
      | exact octet_In_Want.mono _ _ _ _ _ _ _
      | exact LeO.none _
      | refine LeO.ite ?_ ?_
      | refine LeO.bind ?_ (fun _ => ?_)
def diacriticlaw01_do.T4 : Bool × List (List Nat × List Nat) := (true, [([], []), ([], []), ([], []), ([2], [2]), ([1, 3], [1, 3]), ([], []), ([4, 5], [4, 5]), ([0, 4, 0], [0]), ([6, 7, 0, 1, 2, 3, 4, 5, 6, 7], [6])])
def diacriticlaw01_do.B4 : List Nat := [0, 0, 0, 4, 14, 0, 62, 31, 255]
theorem diacriticlaw01_do.tab4 : rtab .any (opsOf Try.f34 4) = diacriticlaw01_do.T4 := by kernel_rfl
theorem diacriticlaw01_do.bits4 : waitsOk diacriticlaw01_do.T4.2 diacriticlaw01_do.B4 = true := by kernel_rfl
def diacriticlaw01_do.T6 : Bool × List (List Nat × List Nat) := (true, [([], []), ([], []), ([1], [1]), ([0, 2, 2], [0, 2]), ([3], [3]), ([4], [4]), ([4], [4]), ([], []), ([7, 5, 3, 0, 1, 2, 3, 4, 5, 7], [5, 7]), ([6, 8, 0, 1, 2, 3, 4, 5, 6, 7, 8], [6])])
def diacriticlaw01_do.B6 : List Nat := [0, 0, 2, 7, 15, 31, 31, 0, 191, 511]
theorem diacriticlaw01_do.tab6 : rtab .any (opsOf Try.f34 6) = diacriticlaw01_do.T6 := by kernel_rfl
theorem diacriticlaw01_do.bits6 : waitsOk diacriticlaw01_do.T6.2 diacriticlaw01_do.B6 = true := by kernel_rfl
def diacriticlaw01_do.T9 : Bool × List (List Nat × List Nat) := (true, [([], []), ([], []), ([], []), ([2], [2]), ([1, 3], [1, 3]), ([], []), ([], []), ([6], [6]), ([5, 7, 4], [5, 7]), ([4, 8], [4, 8]), ([0, 8, 0], [0]), ([9, 10, 0, 1, 2, 3, 4, 5, 6, 7, 8, 9, 10], [9])])
def diacriticlaw01_do.B9 : List Nat := [0, 0, 0, 4, 14, 0, 0, 64, 254, 510, 511, 2047]
theorem diacriticlaw01_do.tab9 : rtab .any (opsOf Try.f34 9) = diacriticlaw01_do.T9 := by kernel_rfl
theorem diacriticlaw01_do.bits9 : waitsOk diacriticlaw01_do.T9.2 diacriticlaw01_do.B9 = true := by kernel_rfl
def diacriticlaw01_do.T11 : Bool × List (List Nat × List Nat) := (true, [([], []), ([], []), ([1], [1]), ([2], [2]), ([0, 3, 3], [0, 3]), ([4], [4]), ([5], [5]), ([5], [5]), ([], []), ([8, 6, 4, 0, 1, 2, 3, 4, 5, 6, 8], [6, 8]), ([7, 9, 0, 1, 2, 3, 4, 5, 6, 7, 8, 9], [7])])
def diacriticlaw01_do.B11 : List Nat := [0, 0, 2, 6, 15, 31, 63, 63, 0, 383, 1023]
theorem diacriticlaw01_do.tab11 : rtab .any (opsOf Try.f34 11) = diacriticlaw01_do.T11 := by kernel_rfl
theorem diacriticlaw01_do.bits11 : waitsOk diacriticlaw01_do.T11.2 diacriticlaw01_do.B11 = true := by kernel_rfl
def diacriticlaw01_do.T12 : Bool × List (List Nat × List Nat) := (true, [([], []), ([], []), ([], []), ([2], [2]), ([1, 3], [1, 3]), ([], []), ([5, 4], [5]), ([4, 6], [4, 6]), ([0, 6, 0], [0]), ([7, 8, 0, 1, 2, 3, 4, 5, 6, 7, 8], [7])])
def diacriticlaw01_do.B12 : List Nat := [0, 0, 0, 4, 14, 0, 62, 126, 127, 511]
theorem diacriticlaw01_do.tab12 : rtab .any (opsOf Try.f34 12) = diacriticlaw01_do.T12 := by kernel_rfl
theorem diacriticlaw01_do.bits12 : waitsOk diacriticlaw01_do.T12.2 diacriticlaw01_do.B12 = true := by kernel_rfl
def diacriticlaw01_do.T14 : Bool × List (List Nat × List Nat) := (true, [([], []), ([], []), ([1], [1]), ([2], [2]), ([0, 3, 3], [0, 3]), ([4], [4]), ([5], [5]), ([5], [5]), ([], []), ([8, 6, 4, 0, 1, 2, 3, 4, 5, 6, 8], [6, 8]), ([7, 9, 0, 1, 2, 3, 4, 5, 6, 7, 8, 9], [7])])
def diacriticlaw01_do.B14 : List Nat := [0, 0, 2, 6, 15, 31, 63, 63, 0, 383, 1023]
theorem diacriticlaw01_do.tab14 : rtab .any (opsOf Try.f34 14) = diacriticlaw01_do.T14 := by kernel_rfl
theorem diacriticlaw01_do.bits14 : waitsOk diacriticlaw01_do.T14.2 diacriticlaw01_do.B14 = true := by kernel_rfl
def diacriticlaw01_do.T15 : Bool × List (List Nat × List Nat) := (true, [([], []), ([], []), ([], []), ([2], [2]), ([1, 3], [1, 3]), ([], []), ([5, 4], [5]), ([6, 6], [6]), ([4, 7], [4, 7]), ([0, 7, 0], [0]), ([8, 9, 0, 1, 2, 3, 4, 5, 6, 7, 8, 9], [8])])
def diacriticlaw01_do.B15 : List Nat := [0, 0, 0, 4, 14, 0, 62, 126, 254, 255, 1023]
theorem diacriticlaw01_do.tab15 : rtab .any (opsOf Try.f34 15) = diacriticlaw01_do.T15 := by kernel_rfl
theorem diacriticlaw01_do.bits15 : waitsOk diacriticlaw01_do.T15.2 diacriticlaw01_do.B15 = true := by kernel_rfl
def diacriticlaw01_do.T21 : Bool × List (List Nat × List Nat) := (true, [([], []), ([], []), ([], []), ([2], [2]), ([1, 3], [1, 3]), ([], []), ([4, 5], [4, 5]), ([0, 4, 0], [0]), ([6, 7, 0, 1, 2, 3, 4, 5, 6, 7], [6])])
def diacriticlaw01_do.B21 : List Nat := [0, 0, 0, 4, 14, 0, 62, 31, 255]
theorem diacriticlaw01_do.tab21 : rtab .any (opsOf Try.f34 21) = diacriticlaw01_do.T21 := by kernel_rfl
theorem diacriticlaw01_do.bits21 : waitsOk diacriticlaw01_do.T21.2 diacriticlaw01_do.B21 = true := by kernel_rfl
def diacriticlaw01_do.T24 : Bool × List (List Nat × List Nat) := (true, [([], []), ([], []), ([], []), ([2], [2]), ([1, 3], [1, 3]), ([], []), ([4, 5], [4, 5]), ([0, 4, 0], [0]), ([6, 7, 0, 1, 2, 3, 4, 5, 6, 7], [6])])
def diacriticlaw01_do.B24 : List Nat := [0, 0, 0, 4, 14, 0, 62, 31, 255]
theorem diacriticlaw01_do.tab24 : rtab .any (opsOf Try.f34 24) = diacriticlaw01_do.T24 := by kernel_rfl
theorem diacriticlaw01_do.bits24 : waitsOk diacriticlaw01_do.T24.2 diacriticlaw01_do.B24 = true := by kernel_rfl
end Go.Proofs.Ytkcckhlkaknggaa.PAll
