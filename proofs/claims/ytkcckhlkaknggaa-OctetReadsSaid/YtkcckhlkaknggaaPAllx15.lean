/- Written by a program of this session: functions of the Go program as Lean functions, and the walks that tie them to it. -/
import Derived.Test.YtkcckhlkaknggaaPAllx15c0
import Derived.Test.YtkcckhlkaknggaaPAllx15c1
import Derived.Test.YtkcckhlkaknggaaPAllx15c2
import Derived.Test.YtkcckhlkaknggaaPAllx15c3
import Derived.Test.YtkcckhlkaknggaaPAllx15c4
import Derived.Test.YtkcckhlkaknggaaPAllx15c5
import Derived.Test.YtkcckhlkaknggaaPAllx15c6
import Derived.Test.YtkcckhlkaknggaaPAllx15c7
import Derived.Test.YtkcckhlkaknggaaPAllx15c8
import Derived.Test.YtkcckhlkaknggaaPAllx15c9
namespace Go.Proofs.Ytkcckhlkaknggaa.PAll
open Go.RowKit Go.Proofs.YtkcckhlkaknggaaW.PrintWords Go.Proofs.YtkcckhlkaknggaaW.PrintLast Go.Proofs.YtkcckhlkaknggaaW.PrintMore
attribute [local go_sem] max2_int min2_int max_two min_two max_three min_three max_four min_four   -- for this text's walks alone
set_option linter.unusedVariables false
set_option linter.unusedSimpArgs false
set_option maxHeartbeats 8000000 in
set_option maxRecDepth 100000 in
theorem diacriticlaw01_do.calls (k : Nat) (g : Nat) (s0_0 : ByteArray) (s0_1 : Int) (s0_2 : Int) (s0_3 : Int) (s0_4 : Int) (a1_0 : ByteArray) (a1_1 : Int) (a1_2 : Int) (a1_3 : Int) (a1_4 : Int) (a2_0 : Int) (a2_1 : Int) (a2_2 : Int) (a2_3 : ByteArray) (r1 : ByteArray) (r2 : Int) (r3 : Int) (r4 : Int) (r5 : Int) (r6 : Bool) (r7 : ByteArray) (r8 : Int) (r9 : Int) (r10 : Int) (r11 : Int) (w0 w : World) (hI : IsS68 w0 w g s0_0 s0_1 s0_2 s0_3 s0_4) (hB : Below w0.heap.size w0 w) (h : diacriticlaw01_do.f k s0_0 s0_1 s0_2 s0_3 s0_4 a1_0 a1_1 a1_2 a1_3 a1_4 a2_0 a2_1 a2_2 a2_3 = some (r1, r2, r3, r4, r5, r6, r7, r8, r9, r10, r11)) :
    Calls Try.prog 34 #[.pointer (some ⟨g, 0, none⟩), .agg #[.string a1_0, .int .i64 a1_1, .int .i64 a1_2, .int .i64 a1_3, .int .i64 a1_4], .agg #[.int .i64 a2_0, .int .i64 a2_1, .int .i64 a2_2, .string a2_3]] w fun e w' => e = .returned (.tuple #[.agg #[.string r1, .int .i64 r2, .int .i64 r3, .int .i64 r4, .int .i64 r5], .bool r6]) ∧ IsS68 w0 w' g r7 r8 r9 r10 r11 ∧ Below w0.heap.size w0 w' ∧ KeepBut w w' g none := by
  by_cases h0_ : a2_0 = 0
  · exact diacriticlaw01_do.case0 (k := k) (g := g) (s0_0 := s0_0) (s0_1 := s0_1) (s0_2 := s0_2) (s0_3 := s0_3) (s0_4 := s0_4) (a1_0 := a1_0) (a1_1 := a1_1) (a1_2 := a1_2) (a1_3 := a1_3) (a1_4 := a1_4) (a2_0 := a2_0) (a2_1 := a2_1) (a2_2 := a2_2) (a2_3 := a2_3) (r1 := r1) (r2 := r2) (r3 := r3) (r4 := r4) (r5 := r5) (r6 := r6) (r7 := r7) (r8 := r8) (r9 := r9) (r10 := r10) (r11 := r11) (w0 := w0) (w := w) (hI := hI) (hB := hB) (h := h) (hcs_ := ⟨h0_⟩)
  · skip
    by_cases h1_ : a2_0 = 1
    · exact diacriticlaw01_do.case1 (k := k) (g := g) (s0_0 := s0_0) (s0_1 := s0_1) (s0_2 := s0_2) (s0_3 := s0_3) (s0_4 := s0_4) (a1_0 := a1_0) (a1_1 := a1_1) (a1_2 := a1_2) (a1_3 := a1_3) (a1_4 := a1_4) (a2_0 := a2_0) (a2_1 := a2_1) (a2_2 := a2_2) (a2_3 := a2_3) (r1 := r1) (r2 := r2) (r3 := r3) (r4 := r4) (r5 := r5) (r6 := r6) (r7 := r7) (r8 := r8) (r9 := r9) (r10 := r10) (r11 := r11) (w0 := w0) (w := w) (hI := hI) (hB := hB) (h := h) (hcs_ := ⟨h1_⟩)
    · skip
      by_cases h2_ : a2_0 = 2
      · exact diacriticlaw01_do.case2 (k := k) (g := g) (s0_0 := s0_0) (s0_1 := s0_1) (s0_2 := s0_2) (s0_3 := s0_3) (s0_4 := s0_4) (a1_0 := a1_0) (a1_1 := a1_1) (a1_2 := a1_2) (a1_3 := a1_3) (a1_4 := a1_4) (a2_0 := a2_0) (a2_1 := a2_1) (a2_2 := a2_2) (a2_3 := a2_3) (r1 := r1) (r2 := r2) (r3 := r3) (r4 := r4) (r5 := r5) (r6 := r6) (r7 := r7) (r8 := r8) (r9 := r9) (r10 := r10) (r11 := r11) (w0 := w0) (w := w) (hI := hI) (hB := hB) (h := h) (hcs_ := ⟨h2_⟩)
      · skip
        by_cases h3_ : a2_0 = 3
        · exact diacriticlaw01_do.case3 (k := k) (g := g) (s0_0 := s0_0) (s0_1 := s0_1) (s0_2 := s0_2) (s0_3 := s0_3) (s0_4 := s0_4) (a1_0 := a1_0) (a1_1 := a1_1) (a1_2 := a1_2) (a1_3 := a1_3) (a1_4 := a1_4) (a2_0 := a2_0) (a2_1 := a2_1) (a2_2 := a2_2) (a2_3 := a2_3) (r1 := r1) (r2 := r2) (r3 := r3) (r4 := r4) (r5 := r5) (r6 := r6) (r7 := r7) (r8 := r8) (r9 := r9) (r10 := r10) (r11 := r11) (w0 := w0) (w := w) (hI := hI) (hB := hB) (h := h) (hcs_ := ⟨h3_⟩)
        · skip
          by_cases h4_ : a2_0 = 4
          · exact diacriticlaw01_do.case4 (k := k) (g := g) (s0_0 := s0_0) (s0_1 := s0_1) (s0_2 := s0_2) (s0_3 := s0_3) (s0_4 := s0_4) (a1_0 := a1_0) (a1_1 := a1_1) (a1_2 := a1_2) (a1_3 := a1_3) (a1_4 := a1_4) (a2_0 := a2_0) (a2_1 := a2_1) (a2_2 := a2_2) (a2_3 := a2_3) (r1 := r1) (r2 := r2) (r3 := r3) (r4 := r4) (r5 := r5) (r6 := r6) (r7 := r7) (r8 := r8) (r9 := r9) (r10 := r10) (r11 := r11) (w0 := w0) (w := w) (hI := hI) (hB := hB) (h := h) (hcs_ := ⟨h4_⟩)
          · skip
            by_cases h5_ : a2_0 = 5
            · exact diacriticlaw01_do.case5 (k := k) (g := g) (s0_0 := s0_0) (s0_1 := s0_1) (s0_2 := s0_2) (s0_3 := s0_3) (s0_4 := s0_4) (a1_0 := a1_0) (a1_1 := a1_1) (a1_2 := a1_2) (a1_3 := a1_3) (a1_4 := a1_4) (a2_0 := a2_0) (a2_1 := a2_1) (a2_2 := a2_2) (a2_3 := a2_3) (r1 := r1) (r2 := r2) (r3 := r3) (r4 := r4) (r5 := r5) (r6 := r6) (r7 := r7) (r8 := r8) (r9 := r9) (r10 := r10) (r11 := r11) (w0 := w0) (w := w) (hI := hI) (hB := hB) (h := h) (hcs_ := ⟨h5_⟩)
            · skip
              by_cases h6_ : a2_0 = 6
              · exact diacriticlaw01_do.case6 (k := k) (g := g) (s0_0 := s0_0) (s0_1 := s0_1) (s0_2 := s0_2) (s0_3 := s0_3) (s0_4 := s0_4) (a1_0 := a1_0) (a1_1 := a1_1) (a1_2 := a1_2) (a1_3 := a1_3) (a1_4 := a1_4) (a2_0 := a2_0) (a2_1 := a2_1) (a2_2 := a2_2) (a2_3 := a2_3) (r1 := r1) (r2 := r2) (r3 := r3) (r4 := r4) (r5 := r5) (r6 := r6) (r7 := r7) (r8 := r8) (r9 := r9) (r10 := r10) (r11 := r11) (w0 := w0) (w := w) (hI := hI) (hB := hB) (h := h) (hcs_ := ⟨h6_⟩)
              · skip
                by_cases h7_ : a2_0 = 7
                · exact diacriticlaw01_do.case7 (k := k) (g := g) (s0_0 := s0_0) (s0_1 := s0_1) (s0_2 := s0_2) (s0_3 := s0_3) (s0_4 := s0_4) (a1_0 := a1_0) (a1_1 := a1_1) (a1_2 := a1_2) (a1_3 := a1_3) (a1_4 := a1_4) (a2_0 := a2_0) (a2_1 := a2_1) (a2_2 := a2_2) (a2_3 := a2_3) (r1 := r1) (r2 := r2) (r3 := r3) (r4 := r4) (r5 := r5) (r6 := r6) (r7 := r7) (r8 := r8) (r9 := r9) (r10 := r10) (r11 := r11) (w0 := w0) (w := w) (hI := hI) (hB := hB) (h := h) (hcs_ := ⟨h7_⟩)
                · skip
                  by_cases h8_ : a2_0 = 8
                  · exact diacriticlaw01_do.case8 (k := k) (g := g) (s0_0 := s0_0) (s0_1 := s0_1) (s0_2 := s0_2) (s0_3 := s0_3) (s0_4 := s0_4) (a1_0 := a1_0) (a1_1 := a1_1) (a1_2 := a1_2) (a1_3 := a1_3) (a1_4 := a1_4) (a2_0 := a2_0) (a2_1 := a2_1) (a2_2 := a2_2) (a2_3 := a2_3) (r1 := r1) (r2 := r2) (r3 := r3) (r4 := r4) (r5 := r5) (r6 := r6) (r7 := r7) (r8 := r8) (r9 := r9) (r10 := r10) (r11 := r11) (w0 := w0) (w := w) (hI := hI) (hB := hB) (h := h) (hcs_ := ⟨h8_⟩)
                  · skip
                    exact diacriticlaw01_do.case9 (k := k) (g := g) (s0_0 := s0_0) (s0_1 := s0_1) (s0_2 := s0_2) (s0_3 := s0_3) (s0_4 := s0_4) (a1_0 := a1_0) (a1_1 := a1_1) (a1_2 := a1_2) (a1_3 := a1_3) (a1_4 := a1_4) (a2_0 := a2_0) (a2_1 := a2_1) (a2_2 := a2_2) (a2_3 := a2_3) (r1 := r1) (r2 := r2) (r3 := r3) (r4 := r4) (r5 := r5) (r6 := r6) (r7 := r7) (r8 := r8) (r9 := r9) (r10 := r10) (r11 := r11) (w0 := w0) (w := w) (hI := hI) (hB := hB) (h := h) (hcs_ := ⟨by omega⟩)
end Go.Proofs.Ytkcckhlkaknggaa.PAll
