/- Written by a program of this session: functions of the Go program as Lean functions, and the walks that tie them to it. -/
import Derived.Test.YtlmhlmendnjmlaaDoorPAllx0
import Derived.Test.YtlmhlmendnjmlaaDoorPAllx5
import Derived.Test.YtlmhlmendnjmlaaDoorPAllx18
import Derived.Test.YtlmhlmendnjmlaaDoorPAllx20
namespace Go.Proofs.YtlmhlmendnjmlaaDoor.PAll
open Go.RowKit Go.Proofs.YtlmhlmendnjmlaaDoorW.PrintWords Go.Proofs.YtlmhlmendnjmlaaDoorW.PrintLast Go.Proofs.YtlmhlmendnjmlaaDoorW.PrintMore
attribute [local go_sem] max2_int min2_int max_two min_two max_three min_three max_four min_four   -- for this text's walks alone
set_option linter.unusedVariables false
set_option linter.unusedSimpArgs false

/-! ### diacriticref13_Print: function 37 -/
mutual
def diacriticref13_Print.j0 : Nat → Int → ByteArray → ByteArray → Int → Int → Int → ByteArray → Int → Option (ByteArray)
  | 0, _, _, _, _, _, _, _, _ => none
  | k + 1, x0, x5, x493000, x493001, x493002, x493003, x493004, x493005 => (diacriticref13_Measured.f x0 x493002).bind fun t495 => (if t495 = true then ((diacriticref01_Safe.f (IntKind.u64.wrap ((x493004.size : Int)))).bind fun t496 => (if x5.size + t496.size ≤ 9223372036854775807 then (diacriticref13_Print.j1 k x0 (x5 ++ t496) x493000 x493001 x493002 x493003 x493004 x493005) else (none))) else (diacriticref13_Print.j1 k x0 x5 x493000 x493001 x493002 x493003 x493004 x493005))
def diacriticref13_Print.j1 : Nat → Int → ByteArray → ByteArray → Int → Int → Int → ByteArray → Int → Option (ByteArray)
  | 0, _, _, _, _, _, _, _, _ => none
  | k + 1, x0, x5, x493000, x493001, x493002, x493003, x493004, x493005 => (diacriticref13_Spread.f x0 x493002).bind fun t497 => (if t497 = true then ((diacriticref11_Put.f k x493004).bind fun t498 => (if x5.size + t498.size ≤ 9223372036854775807 then (diacriticref13_Print.j2 k x0 (x5 ++ t498) x493000 x493001 x493002 x493003 x493004 x493005) else (none))) else (if x5.size + x493004.size ≤ 9223372036854775807 then (diacriticref13_Print.j2 k x0 (x5 ++ x493004) x493000 x493001 x493002 x493003 x493004 x493005) else (none)))
def diacriticref13_Print.j2 : Nat → Int → ByteArray → ByteArray → Int → Int → Int → ByteArray → Int → Option (ByteArray)
  | 0, _, _, _, _, _, _, _, _ => none
  | k + 1, x0, x5, x493000, x493001, x493002, x493003, x493004, x493005 => if x0 = 2 then ((diacriticref01_Big.f k (IntKind.u64.wrap ((x5.size : Int))) 3).bind fun t499 => (if x493000.size + t499.size ≤ 9223372036854775807 then (if (x493000 ++ t499).size + x5.size ≤ 9223372036854775807 then (some ((x493000 ++ t499) ++ x5)) else (none)) else (none))) else ((diacriticref01_Big.f k (IntKind.u64.wrap ((x5.size : Int))) 4).bind fun t500 => (if x0 = 4 then ((diacriticref01_Safe.f (IntKind.u64.wrap ((x5.size : Int)))).bind fun t501 => (if x493000.size + t501.size ≤ 9223372036854775807 then ((diacriticref01_Big.f k (IntKind.u64.wrap (x493001)) 1).bind fun t502 => (if (x493000 ++ t501).size + t502.size ≤ 9223372036854775807 then ((diacriticref01_Big.f k (IntKind.u64.wrap (x493002)) 1).bind fun t503 => (if ((x493000 ++ t501) ++ t502).size + t503.size ≤ 9223372036854775807 then (if (((x493000 ++ t501) ++ t502) ++ t503).size + x5.size ≤ 9223372036854775807 then (some ((((x493000 ++ t501) ++ t502) ++ t503) ++ x5)) else (none)) else (none))) else (none))) else (none))) else (if x493000.size + t500.size ≤ 9223372036854775807 then ((diacriticref01_Big.f k (IntKind.u64.wrap (x493001)) 1).bind fun t504 => (if (x493000 ++ t500).size + t504.size ≤ 9223372036854775807 then ((diacriticref01_Big.f k (IntKind.u64.wrap (x493002)) 1).bind fun t505 => (if ((x493000 ++ t500) ++ t504).size + t505.size ≤ 9223372036854775807 then (if (((x493000 ++ t500) ++ t504) ++ t505).size + x5.size ≤ 9223372036854775807 then (some ((((x493000 ++ t500) ++ t504) ++ t505) ++ x5)) else (none)) else (none))) else (none))) else (none))))
end
def diacriticref13_Print.f (k : Nat) (a0 : Int) (a1_0 : ByteArray) (a1_1 : Int) (a1_2 : Int) (a1_3 : Int) (a1_4 : ByteArray) (a1_5 : Int) : Option (ByteArray) := (diacriticref13_Grouped.f a0 a1_2).bind fun t493 => (if t493 = true then ((diacriticref01_Big.f k (IntKind.u64.wrap (a1_3)) 1).bind fun t494 => (if 0 + t494.size ≤ 9223372036854775807 then (diacriticref13_Print.j0 k a0 ((⟨#[]⟩ : ByteArray) ++ t494) a1_0 a1_1 a1_2 a1_3 a1_4 a1_5) else (none))) else (diacriticref13_Print.j0 k a0 (⟨#[]⟩ : ByteArray) a1_0 a1_1 a1_2 a1_3 a1_4 a1_5))
theorem diacriticref13_Print.mono_l : ∀ k, (∀ y0 y1 y2 y3 y4 y5 y6 y7, LeO (diacriticref13_Print.j0 k y0 y1 y2 y3 y4 y5 y6 y7) (diacriticref13_Print.j0 (k + 1) y0 y1 y2 y3 y4 y5 y6 y7)) ∧ (∀ y0 y1 y2 y3 y4 y5 y6 y7, LeO (diacriticref13_Print.j1 k y0 y1 y2 y3 y4 y5 y6 y7) (diacriticref13_Print.j1 (k + 1) y0 y1 y2 y3 y4 y5 y6 y7)) ∧ (∀ y0 y1 y2 y3 y4 y5 y6 y7, LeO (diacriticref13_Print.j2 k y0 y1 y2 y3 y4 y5 y6 y7) (diacriticref13_Print.j2 (k + 1) y0 y1 y2 y3 y4 y5 y6 y7))
  | 0 => ⟨fun _ _ _ _ _ _ _ _ r h => by simp [diacriticref13_Print.j0] at h, fun _ _ _ _ _ _ _ _ r h => by simp [diacriticref13_Print.j1] at h, fun _ _ _ _ _ _ _ _ r h => by simp [diacriticref13_Print.j2] at h⟩
  | k + 1 => by
    obtain ⟨ih0, ih1, ih2⟩ := diacriticref13_Print.mono_l k
    refine ⟨?_, ?_, ?_⟩
    · intro y0 y1 y2 y3 y4 y5 y6 y7
      unfold diacriticref13_Print.j0
      repeat' first
      | (with_reducible exact ih0 _ _ _ _ _ _ _ _)
      | (with_reducible exact ih1 _ _ _ _ _ _ _ _)
      | (with_reducible exact ih2 _ _ _ _ _ _ _ _)
      | (with_reducible exact diacriticref01_Big.mono _ _ _)
      | (with_reducible exact diacriticref11_Put.mono _ _)
      | (with_reducible exact LeO.refl _)
      | (with_reducible exact LeO.none _)
      | (with_reducible refine LeO.ite ?_ ?_)
      | (with_reducible refine LeO.bind ?_ (fun _ => ?_))
      | exact ih0 _ _ _ _ _ _ _ _
      | exact ih1 _ _ _ _ _ _ _ _
      | exact ih2 _ _ _ _ _ _ _ _
      | exact diacriticref01_Big.mono _ _ _
      | exact diacriticref11_Put.mono _ _
      | exact LeO.none _
      | refine LeO.ite ?_ ?_
      | refine LeO.bind ?_ (fun _ => ?_)
    · intro y0 y1 y2 y3 y4 y5 y6 y7
      unfold diacriticref13_Print.j1
      repeat' first
      | (with_reducible exact ih0 _ _ _ _ _ _ _ _)
      | (with_reducible exact ih1 _ _ _ _ _ _ _ _)
      | (with_reducible exact ih2 _ _ _ _ _ _ _ _)
      | (with_reducible exact diacriticref01_Big.mono _ _ _)
      | (with_reducible exact diacriticref11_Put.mono _ _)
      | (with_reducible exact LeO.refl _)
      | (with_reducible exact LeO.none _)
      | (with_reducible refine LeO.ite ?_ ?_)
      | (with_reducible refine LeO.bind ?_ (fun _ => ?_))
      | exact ih0 _ _ _ _ _ _ _ _
      | exact ih1 _ _ _ _ _ _ _ _
      | exact ih2 _ _ _ _ _ _ _ _
      | exact diacriticref01_Big.mono _ _ _
      | exact diacriticref11_Put.mono _ _
      | exact LeO.none _
      | refine LeO.ite ?_ ?_
      | refine LeO.bind ?_ (fun _ => ?_)
    · intro y0 y1 y2 y3 y4 y5 y6 y7
      unfold diacriticref13_Print.j2
      repeat' first
      | (with_reducible exact ih0 _ _ _ _ _ _ _ _)
      | (with_reducible exact ih1 _ _ _ _ _ _ _ _)
      | (with_reducible exact ih2 _ _ _ _ _ _ _ _)
      | (with_reducible exact diacriticref01_Big.mono _ _ _)
      | (with_reducible exact diacriticref11_Put.mono _ _)
      | (with_reducible exact LeO.refl _)
      | (with_reducible exact LeO.none _)
      | (with_reducible refine LeO.ite ?_ ?_)
      | (with_reducible refine LeO.bind ?_ (fun _ => ?_))
      | exact ih0 _ _ _ _ _ _ _ _
      | exact ih1 _ _ _ _ _ _ _ _
      | exact ih2 _ _ _ _ _ _ _ _
      | exact diacriticref01_Big.mono _ _ _
      | exact diacriticref11_Put.mono _ _
      | exact LeO.none _
      | refine LeO.ite ?_ ?_
      | refine LeO.bind ?_ (fun _ => ?_)
theorem diacriticref13_Print.mono : ∀ a0 a1 a2 a3 a4 a5 a6 k, LeO (diacriticref13_Print.f k a0 a1 a2 a3 a4 a5 a6) (diacriticref13_Print.f (k + 1) a0 a1 a2 a3 a4 a5 a6) := by
  intro a0 a1 a2 a3 a4 a5 a6 k
  obtain ⟨ih0, ih1, ih2⟩ := diacriticref13_Print.mono_l k
  unfold diacriticref13_Print.f
  repeat' first
      | (with_reducible exact ih0 _ _ _ _ _ _ _ _)
      | (with_reducible exact ih1 _ _ _ _ _ _ _ _)
      | (with_reducible exact ih2 _ _ _ _ _ _ _ _)
      | (with_reducible exact diacriticref01_Big.mono _ _ _)
      | (with_reducible exact diacriticref11_Put.mono _ _)
      | (with_reducible exact LeO.refl _)
      | (with_reducible exact LeO.none _)
      | (with_reducible refine LeO.ite ?_ ?_)
      | (with_reducible refine LeO.bind ?_ (fun _ => ?_))
      | exact ih0 _ _ _ _ _ _ _ _
      | exact ih1 _ _ _ _ _ _ _ _
      | exact ih2 _ _ _ _ _ _ _ _
      | exact diacriticref01_Big.mono _ _ _
      | exact diacriticref11_Put.mono _ _
      | exact LeO.none _
      | refine LeO.ite ?_ ?_
      | refine LeO.bind ?_ (fun _ => ?_)
def diacriticref13_Print.T11 : Bool × List (List Nat × List Nat) := (true, [([], []), ([0], [0]), ([], []), ([2], [2]), ([1, 3], [1, 3]), ([], []), ([4, 5], [4, 5]), ([6, 3, 0, 1, 2, 3, 4, 5, 6], [6])])
def diacriticref13_Print.B11 : List Nat := [0, 1, 0, 4, 15, 0, 63, 127]
theorem diacriticref13_Print.tab11 : rtab .any (opsOf Tryd.f37 11) = diacriticref13_Print.T11 := by kernel_rfl
theorem diacriticref13_Print.bits11 : waitsOk diacriticref13_Print.T11.2 diacriticref13_Print.B11 = true := by kernel_rfl
def diacriticref13_Print.T15 : Bool × List (List Nat × List Nat) := (true, [([], []), ([0], [0]), ([], []), ([1, 2], [1, 2]), ([], []), ([4], [4]), ([5], [5]), ([6], [6]), ([3, 7], [3, 7]), ([], []), ([9], [9]), ([10], [10]), ([11, 7], [11]), ([8, 12], [8, 12]), ([], []), ([13, 14], [13, 14]), ([15, 12, 0, 1, 2, 3, 4, 5, 6, 7, 8, 9, 10, 11, 12, 13, 14, 15], [15])])
def diacriticref13_Print.B15 : List Nat := [0, 1, 0, 7, 0, 16, 48, 112, 255, 0, 512, 1536, 3824, 8191, 0, 32767, 65535]
theorem diacriticref13_Print.tab15 : rtab .any (opsOf Tryd.f37 15) = diacriticref13_Print.T15 := by kernel_rfl
theorem diacriticref13_Print.bits15 : waitsOk diacriticref13_Print.T15.2 diacriticref13_Print.B15 = true := by kernel_rfl
set_option maxHeartbeats 8000000 in
set_option maxRecDepth 100000 in
theorem diacriticref13_Print.calls (k : Nat) (a0 : Int) (a1_0 : ByteArray) (a1_1 : Int) (a1_2 : Int) (a1_3 : Int) (a1_4 : ByteArray) (a1_5 : Int) (r : ByteArray) (w : World) (h : diacriticref13_Print.f k a0 a1_0 a1_1 a1_2 a1_3 a1_4 a1_5 = some r) :
    Calls Tryd.prog 37 #[.int .i64 a0, .agg #[.string a1_0, .int .i64 a1_1, .int .i64 a1_2, .int .i64 a1_3, .string a1_4, .int .i64 a1_5]] w fun e w' => e = .returned (.string r) ∧ Below w.heap.size w w' := by
  have hu44 := Tryd.underlying44
  have HB := Aside0.mk (Below.refl w.heap.size w)
  have H : ((diacriticref13_Grouped.f a0 a1_2).bind fun t493 => (if t493 = true then ((diacriticref01_Big.f k (IntKind.u64.wrap (a1_3)) 1).bind fun t494 => (if 0 + t494.size ≤ 9223372036854775807 then (diacriticref13_Print.j0 k a0 ((⟨#[]⟩ : ByteArray) ++ t494) a1_0 a1_1 a1_2 a1_3 a1_4 a1_5) else (none))) else (diacriticref13_Print.j0 k a0 (⟨#[]⟩ : ByteArray) a1_0 a1_1 a1_2 a1_3 a1_4 a1_5))) = some r := h
  clear h
  replace H := Option.bind_eq_some_iff.mp H
  obtain ⟨t493, A30, H⟩ := H
  replace H : (if t493 = true then ((diacriticref01_Big.f k (IntKind.u64.wrap (a1_3)) 1).bind fun t494 => (if 0 + t494.size ≤ 9223372036854775807 then (diacriticref13_Print.j0 k a0 ((⟨#[]⟩ : ByteArray) ++ t494) a1_0 a1_1 a1_2 a1_3 a1_4 a1_5) else (none))) else (diacriticref13_Print.j0 k a0 (⟨#[]⟩ : ByteArray) a1_0 a1_1 a1_2 a1_3 a1_4 a1_5)) = some r := H
  have A3 := Aside0.mk A30
  clear A30
  have HC4 := Aside0.mk H
  clear H
  go_enter Tryd.func37, Tryd.ntmps37
  go_upto_if 11 with (first | ((with_reducible refine gate_dst (N := 3) rfl ?_); refine box_event ?hg (N := 3) ?hd (cs := #[.string a1_0, .int .i64 a1_1, .int .i64 a1_2, .int .i64 a1_3, .string a1_4, .int .i64 a1_5]) (t := 44) ?hr ?_; (case hd => rfl); (case hg => rfl); (case hr => first | (go_simp; done) | (go_simp; rfl)); intro gb492 hg w5 hbox hb; have n0_ := Aside0.mk (below_step q_3 hb); have n1_ := Aside0.mk (hbox); have n2_ := Aside0.mk ((by rw [hg]; exact (below_size q_3) : w.heap.size ≤ gb492)); have n3_ := Aside0.mk ((by rw [hg]; exact (below_size q_3) : w.heap.size ≤ gb492)); clear HB; have HB := n0_; have BK492 := n1_; have GW492 := n2_; have GE492 := n3_; clear n0_ n1_ n2_ n3_; clear hb hbox hg; obtain ⟨hcz6_0, hcz6_1, hcz6_2, hcz6_3, hcz6_4, hcz6_5, hfz6_0, hfz6_1, hfz6_2, hfz6_3, hfz6_4, hfz6_5⟩ := cells6_ BK492.out) | ((with_reducible refine gate_callee (f := 22) rfl ?_); refine goesL_ (some 11) rfl rfl Tryd.func22 (by kernel_rfl) rfl #[.int .i64 a0, .int .i64 a1_2] rfl q_7 ?_; (with_reducible refine (diacriticref13_Grouped.calls a0 a1_2 t493 _ A3.out).mono ?_); rintro e w' ⟨rfl, ⟨nd, rfl⟩⟩; refine ⟨_, rfl, ?_⟩))
  (try simp only [Act.put, List.setIfInBounds_toArray, List.set_cons_zero, List.set_cons_succ])
  go_cut [5] (fun v5 wc => ∃ (kq : Nat) (x5_3 : ByteArray), v5 = .string x5_3 ∧ Aside0 (diacriticref13_Print.j0 kq a0 x5_3 a1_0 a1_1 a1_2 a1_3 a1_4 a1_5 = some r) ∧ Aside0 (kq ≤ k) ∧ Aside0 (wc.heap[gb492]? = some (.cells #[.string a1_0, .int .i64 a1_1, .int .i64 a1_2, .int .i64 a1_3, .string a1_4, .int .i64 a1_5] 44 (0, 0))) ∧ Aside0 (Below w.heap.size w wc))
  case first =>
    have H := HC4.out
    clear HC4
    by_cases c7 : t493 = true
    · subst c7
      have H1 : ((diacriticref01_Big.f k (IntKind.u64.wrap (a1_3)) 1).bind fun t494 => (if 0 + t494.size ≤ 9223372036854775807 then (diacriticref13_Print.j0 k a0 ((⟨#[]⟩ : ByteArray) ++ t494) a1_0 a1_1 a1_2 a1_3 a1_4 a1_5) else (none))) = some r := by rw [if_pos rfl] at H; exact H
      clear H
      have H := H1
      clear H1
      replace H := Option.bind_eq_some_iff.mp H
      obtain ⟨t494, A80, H⟩ := H
      replace H : (if 0 + t494.size ≤ 9223372036854775807 then (diacriticref13_Print.j0 k a0 ((⟨#[]⟩ : ByteArray) ++ t494) a1_0 a1_1 a1_2 a1_3 a1_4 a1_5) else (none)) = some r := H
      have A8 := Aside0.mk A80
      clear A80
      by_cases c9 : 0 + t494.size ≤ 9223372036854775807
      · rw [if_pos c9] at H
        have c9b0 := eq_true c9
        have c9b1 : decide (0 + t494.size ≤ 9223372036854775807) = true := decide_eq_true c9
        try have c9b2 : (9223372036854775807 < 0 + t494.size) = False := eq_false (Nat.not_lt.2 c9)
        have H' := Aside0.mk H
        clear H
        obtain ⟨hcz10_0, hcz10_1, hcz10_2, hcz10_3, hcz10_4, hcz10_5, hfz10_0, hfz10_1, hfz10_2, hfz10_3, hfz10_4, hfz10_5⟩ := cells6_ BK492.out
        go_wp2_with (first | ((with_reducible refine gate_callee (f := 61) rfl ?_); refine goesL_ (some 16) rfl rfl Tryd.func61 (by kernel_rfl) rfl #[.int .u64 (IntKind.u64.wrap (a1_3)), .int .i64 1] rfl q_7 ?_; (with_reducible refine (diacriticref01_Big.calls k (IntKind.u64.wrap (a1_3)) 1 t494 _ A8.out).mono ?_); rintro e w11 ⟨rfl, hb⟩; refine ⟨_, rfl, ?_⟩; have n0_ := Aside0.mk (blk_below (g := gb492) (o := .cells #[.string a1_0, .int .i64 a1_1, .int .i64 a1_2, .int .i64 a1_3, .string a1_4, .int .i64 a1_5] 44 (0, 0)) q_91 hb); have n1_ := Aside0.mk (below_step q_92 hb); clear BK492; clear HB; have BK492 := n0_; have HB := n1_; clear n0_ n1_; (try clear hb); (try clear hb2); (try clear hk); (try clear hi)))
        go_meet
        case rel => exact ⟨_, ((⟨#[]⟩ : ByteArray) ++ t494), q_1, H', ⟨by first | omega | exact Nat.le_refl _⟩, ⟨q_91⟩, ⟨q_92⟩⟩
      · rw [if_neg c9] at H
        exact absurd H (by simp)
    · replace c7 := Bool.eq_false_iff.mpr c7
      subst c7
      have H1 : (diacriticref13_Print.j0 k a0 (⟨#[]⟩ : ByteArray) a1_0 a1_1 a1_2 a1_3 a1_4 a1_5) = some r := by rw [if_neg (show ¬ (false = true) by decide)] at H; exact H
      clear H
      have H := H1
      clear H1
      have H' := Aside0.mk H
      clear H
      go_wp2
      go_meet
      case rel => exact ⟨_, ((⟨#[]⟩ : ByteArray)), q_1, H', ⟨by first | omega | exact Nat.le_refl _⟩, ⟨q_91⟩, ⟨q_92⟩⟩
  case rest =>
    clear HC4
    try clear c2; try clear p2; try clear c3; try clear c6; try clear c7; try clear c9; try clear c9b0; try clear c9b1; try clear c9b2; try clear hcz10_0; try clear hcz10_1; try clear hcz10_2; try clear hcz10_3; try clear hcz10_4; try clear hcz10_5; try clear hcz6_0; try clear hcz6_1; try clear hcz6_2; try clear hcz6_3; try clear hcz6_4; try clear hcz6_5; try clear hfz10_0; try clear hfz10_1; try clear hfz10_2; try clear hfz10_3; try clear hfz10_4; try clear hfz10_5; try clear hfz6_0; try clear hfz6_1; try clear hfz6_2; try clear hfz6_3; try clear hfz6_4; try clear hfz6_5
    obtain ⟨kq, x5_3, rfl, HA, HJ3, BK492, HB⟩ := hcut
    cases kq with
    | zero => exact absurd HA.out (by simp [diacriticref13_Print.j0])
    | succ kj3 =>
      have H := HA.out
      clear HA
      simp only [diacriticref13_Print.j0] at H
      replace H := Option.bind_eq_some_iff.mp H
      obtain ⟨t495, A120, H⟩ := H
      replace H : (if t495 = true then ((diacriticref01_Safe.f (IntKind.u64.wrap ((a1_4.size : Int)))).bind fun t496 => (if x5_3.size + t496.size ≤ 9223372036854775807 then (diacriticref13_Print.j1 kj3 a0 (x5_3 ++ t496) a1_0 a1_1 a1_2 a1_3 a1_4 a1_5) else (none))) else (diacriticref13_Print.j1 kj3 a0 x5_3 a1_0 a1_1 a1_2 a1_3 a1_4 a1_5)) = some r := H
      have A12 := Aside0.mk A120
      clear A120
      have HC13 := Aside0.mk H
      clear H
      obtain ⟨hcz14_0, hcz14_1, hcz14_2, hcz14_3, hcz14_4, hcz14_5, hfz14_0, hfz14_1, hfz14_2, hfz14_3, hfz14_4, hfz14_5⟩ := cells6_ BK492.out
      go_upto_if 21 with (first | ((with_reducible refine gate_callee (f := 24) rfl ?_); refine goesL_ (some 21) rfl rfl Tryd.func24 (by kernel_rfl) rfl #[.int .i64 a0, .int .i64 a1_2] rfl q_7 ?_; (with_reducible refine (diacriticref13_Measured.calls a0 a1_2 t495 _ A12.out).mono ?_); rintro e w' ⟨rfl, ⟨nd, rfl⟩⟩; refine ⟨_, rfl, ?_⟩))
      (try simp only [Act.put, List.setIfInBounds_toArray, List.set_cons_zero, List.set_cons_succ])
      go_cut [5] (fun v5 wc => ∃ (kq : Nat) (x5_12 : ByteArray), v5 = .string x5_12 ∧ Aside0 (diacriticref13_Print.j1 kq a0 x5_12 a1_0 a1_1 a1_2 a1_3 a1_4 a1_5 = some r) ∧ Aside0 (kq ≤ kj3) ∧ Aside0 (wc.heap[gb492]? = some (.cells #[.string a1_0, .int .i64 a1_1, .int .i64 a1_2, .int .i64 a1_3, .string a1_4, .int .i64 a1_5] 44 (0, 0))) ∧ Aside0 (Below w.heap.size w wc))
      case first =>
        have H := HC13.out
        clear HC13
        by_cases c15 : t495 = true
        · subst c15
          have H1 : ((diacriticref01_Safe.f (IntKind.u64.wrap ((a1_4.size : Int)))).bind fun t496 => (if x5_3.size + t496.size ≤ 9223372036854775807 then (diacriticref13_Print.j1 kj3 a0 (x5_3 ++ t496) a1_0 a1_1 a1_2 a1_3 a1_4 a1_5) else (none))) = some r := by rw [if_pos rfl] at H; exact H
          clear H
          have H := H1
          clear H1
          replace H := Option.bind_eq_some_iff.mp H
          obtain ⟨t496, A160, H⟩ := H
          replace H : (if x5_3.size + t496.size ≤ 9223372036854775807 then (diacriticref13_Print.j1 kj3 a0 (x5_3 ++ t496) a1_0 a1_1 a1_2 a1_3 a1_4 a1_5) else (none)) = some r := H
          have A16 := Aside0.mk A160
          clear A160
          by_cases c17 : x5_3.size + t496.size ≤ 9223372036854775807
          · rw [if_pos c17] at H
            have c17b0 := eq_true c17
            have c17b1 : decide (x5_3.size + t496.size ≤ 9223372036854775807) = true := decide_eq_true c17
            try have c17b2 : (9223372036854775807 < x5_3.size + t496.size) = False := eq_false (Nat.not_lt.2 c17)
            have H' := Aside0.mk H
            clear H
            obtain ⟨hcz18_0, hcz18_1, hcz18_2, hcz18_3, hcz18_4, hcz18_5, hfz18_0, hfz18_1, hfz18_2, hfz18_3, hfz18_4, hfz18_5⟩ := cells6_ BK492.out
            go_wp2_with (first | ((with_reducible refine gate_callee (f := 62) rfl ?_); refine goesL_ (some 27) rfl rfl Tryd.func62 (by kernel_rfl) rfl #[.int .u64 (IntKind.u64.wrap ((a1_4.size : Int)))] rfl (by (try simp only [List.map_toArray, List.map_cons, List.map_nil]); first | done | rfl | (simp only [List.length_drop, List.length_take]; rfl) | (rw [show IntKind.u64.wrap ((a1_4.size : Int)) = (a1_4.size : Int) from by simp [IntKind.wrap, IntKind.bits, IntKind.signed]; omega]; rfl)) ?_; (with_reducible refine (diacriticref01_Safe.calls (IntKind.u64.wrap ((a1_4.size : Int))) t496 _ A16.out).mono ?_); rintro e w19 ⟨rfl, hb⟩; refine ⟨_, rfl, ?_⟩; have n0_ := Aside0.mk (blk_below (g := gb492) (o := .cells #[.string a1_0, .int .i64 a1_1, .int .i64 a1_2, .int .i64 a1_3, .string a1_4, .int .i64 a1_5] 44 (0, 0)) q_91 hb); have n1_ := Aside0.mk (below_step q_92 hb); clear BK492; clear HB; have BK492 := n0_; have HB := n1_; clear n0_ n1_; (try clear hb); (try clear hb2); (try clear hk); (try clear hi)))
            go_meet
            case rel => exact ⟨_, (x5_3 ++ t496), q_1, H', ⟨q_29⟩, ⟨q_91⟩, ⟨q_92⟩⟩
          · rw [if_neg c17] at H
            exact absurd H (by simp)
        · replace c15 := Bool.eq_false_iff.mpr c15
          subst c15
          have H1 : (diacriticref13_Print.j1 kj3 a0 x5_3 a1_0 a1_1 a1_2 a1_3 a1_4 a1_5) = some r := by rw [if_neg (show ¬ (false = true) by decide)] at H; exact H
          clear H
          have H := H1
          clear H1
          have H' := Aside0.mk H
          clear H
          go_wp2
          go_meet
          case rel => exact ⟨_, (x5_3), q_1, H', ⟨q_29⟩, ⟨q_91⟩, ⟨q_92⟩⟩
      case rest =>
        clear HC13
        try clear c1; try clear c2; try clear p2; try clear c3; try clear c6; try clear c7; try clear c9; try clear c9b0; try clear c9b1; try clear c9b2; try clear c15; try clear c17; try clear c17b0; try clear c17b1; try clear c17b2; try clear hcz10_0; try clear hcz10_1; try clear hcz10_2; try clear hcz10_3; try clear hcz10_4; try clear hcz10_5; try clear hcz14_0; try clear hcz14_1; try clear hcz14_2; try clear hcz14_3; try clear hcz14_4; try clear hcz14_5; try clear hcz18_0; try clear hcz18_1; try clear hcz18_2; try clear hcz18_3; try clear hcz18_4; try clear hcz18_5; try clear hcz6_0; try clear hcz6_1; try clear hcz6_2; try clear hcz6_3; try clear hcz6_4; try clear hcz6_5; try clear hfz10_0; try clear hfz10_1; try clear hfz10_2; try clear hfz10_3; try clear hfz10_4; try clear hfz10_5; try clear hfz14_0; try clear hfz14_1; try clear hfz14_2; try clear hfz14_3; try clear hfz14_4; try clear hfz14_5; try clear hfz18_0; try clear hfz18_1; try clear hfz18_2; try clear hfz18_3; try clear hfz18_4; try clear hfz18_5; try clear hfz6_0; try clear hfz6_1; try clear hfz6_2; try clear hfz6_3; try clear hfz6_4; try clear hfz6_5; try clear p2
        obtain ⟨kq, x5_12, rfl, HA, HJ12, BK492, HB⟩ := hcut
        cases kq with
        | zero => exact absurd HA.out (by simp [diacriticref13_Print.j1])
        | succ kj12 =>
          have H := HA.out
          clear HA
          simp only [diacriticref13_Print.j1] at H
          replace H := Option.bind_eq_some_iff.mp H
          obtain ⟨t497, A200, H⟩ := H
          replace H : (if t497 = true then ((diacriticref11_Put.f kj12 a1_4).bind fun t498 => (if x5_12.size + t498.size ≤ 9223372036854775807 then (diacriticref13_Print.j2 kj12 a0 (x5_12 ++ t498) a1_0 a1_1 a1_2 a1_3 a1_4 a1_5) else (none))) else (if x5_12.size + a1_4.size ≤ 9223372036854775807 then (diacriticref13_Print.j2 kj12 a0 (x5_12 ++ a1_4) a1_0 a1_1 a1_2 a1_3 a1_4 a1_5) else (none))) = some r := H
          have A20 := Aside0.mk A200
          clear A200
          have HC21 := Aside0.mk H
          clear H
          obtain ⟨hcz22_0, hcz22_1, hcz22_2, hcz22_3, hcz22_4, hcz22_5, hfz22_0, hfz22_1, hfz22_2, hfz22_3, hfz22_4, hfz22_5⟩ := cells6_ BK492.out
          go_upto_if 32 with (first | ((with_reducible refine gate_callee (f := 26) rfl ?_); refine goesL_ (some 32) rfl rfl Tryd.func26 (by kernel_rfl) rfl #[.int .i64 a0, .int .i64 a1_2] rfl q_7 ?_; (with_reducible refine (diacriticref13_Spread.calls a0 a1_2 t497 _ A20.out).mono ?_); rintro e w' ⟨rfl, ⟨nd, rfl⟩⟩; refine ⟨_, rfl, ?_⟩))
          (try simp only [Act.put, List.setIfInBounds_toArray, List.set_cons_zero, List.set_cons_succ])
          go_cut [5] (fun v5 wc => ∃ (kq : Nat) (x5_20 : ByteArray), v5 = .string x5_20 ∧ Aside0 (diacriticref13_Print.j2 kq a0 x5_20 a1_0 a1_1 a1_2 a1_3 a1_4 a1_5 = some r) ∧ Aside0 (kq ≤ kj12) ∧ Aside0 (wc.heap[gb492]? = some (.cells #[.string a1_0, .int .i64 a1_1, .int .i64 a1_2, .int .i64 a1_3, .string a1_4, .int .i64 a1_5] 44 (0, 0))) ∧ Aside0 (Below w.heap.size w wc))
          case first =>
            have H := HC21.out
            clear HC21
            by_cases c23 : t497 = true
            · subst c23
              have H1 : ((diacriticref11_Put.f kj12 a1_4).bind fun t498 => (if x5_12.size + t498.size ≤ 9223372036854775807 then (diacriticref13_Print.j2 kj12 a0 (x5_12 ++ t498) a1_0 a1_1 a1_2 a1_3 a1_4 a1_5) else (none))) = some r := by rw [if_pos rfl] at H; exact H
              clear H
              have H := H1
              clear H1
              replace H := Option.bind_eq_some_iff.mp H
              obtain ⟨t498, A240, H⟩ := H
              replace H : (if x5_12.size + t498.size ≤ 9223372036854775807 then (diacriticref13_Print.j2 kj12 a0 (x5_12 ++ t498) a1_0 a1_1 a1_2 a1_3 a1_4 a1_5) else (none)) = some r := H
              have A24 := Aside0.mk A240
              clear A240
              by_cases c25 : x5_12.size + t498.size ≤ 9223372036854775807
              · rw [if_pos c25] at H
                have c25b0 := eq_true c25
                have c25b1 : decide (x5_12.size + t498.size ≤ 9223372036854775807) = true := decide_eq_true c25
                try have c25b2 : (9223372036854775807 < x5_12.size + t498.size) = False := eq_false (Nat.not_lt.2 c25)
                have H' := Aside0.mk H
                clear H
                obtain ⟨hcz26_0, hcz26_1, hcz26_2, hcz26_3, hcz26_4, hcz26_5, hfz26_0, hfz26_1, hfz26_2, hfz26_3, hfz26_4, hfz26_5⟩ := cells6_ BK492.out
                go_wp2_with (first | ((with_reducible refine gate_callee (f := 15) rfl ?_); refine goesL_ (some 36) rfl rfl Tryd.func15 (by kernel_rfl) rfl #[.string a1_4] rfl q_7 ?_; (with_reducible refine (diacriticref11_Put.calls kj12 a1_4 t498 _ A24.out).mono ?_); rintro e w' ⟨rfl, ⟨nd, rfl⟩⟩; refine ⟨_, rfl, ?_⟩))
                go_meet
                case rel => exact ⟨_, (x5_12 ++ t498), q_1, H', ⟨by have := HJ3.out; have := HJ12.out; first | omega | exact Nat.le_refl _⟩, ⟨q_91⟩, ⟨q_92⟩⟩
              · rw [if_neg c25] at H
                exact absurd H (by simp)
            · replace c23 := Bool.eq_false_iff.mpr c23
              subst c23
              have H1 : (if x5_12.size + a1_4.size ≤ 9223372036854775807 then (diacriticref13_Print.j2 kj12 a0 (x5_12 ++ a1_4) a1_0 a1_1 a1_2 a1_3 a1_4 a1_5) else (none)) = some r := by rw [if_neg (show ¬ (false = true) by decide)] at H; exact H
              clear H
              have H := H1
              clear H1
              by_cases c27 : x5_12.size + a1_4.size ≤ 9223372036854775807
              · rw [if_pos c27] at H
                have c27b0 := eq_true c27
                have c27b1 : decide (x5_12.size + a1_4.size ≤ 9223372036854775807) = true := decide_eq_true c27
                try have c27b2 : (9223372036854775807 < x5_12.size + a1_4.size) = False := eq_false (Nat.not_lt.2 c27)
                have H' := Aside0.mk H
                clear H
                obtain ⟨hcz28_0, hcz28_1, hcz28_2, hcz28_3, hcz28_4, hcz28_5, hfz28_0, hfz28_1, hfz28_2, hfz28_3, hfz28_4, hfz28_5⟩ := cells6_ BK492.out
                go_wp2
                go_meet
                case rel => exact ⟨_, (x5_12 ++ a1_4), q_1, H', ⟨by have := HJ3.out; have := HJ12.out; first | omega | exact Nat.le_refl _⟩, ⟨q_91⟩, ⟨q_92⟩⟩
              · rw [if_neg c27] at H
                exact absurd H (by simp)
          case rest =>
            clear HC21
            try clear c1; try clear c2; try clear p2; try clear c3; try clear c6; try clear c7; try clear c9; try clear c9b0; try clear c9b1; try clear c9b2; try clear c15; try clear c17; try clear c17b0; try clear c17b1; try clear c17b2; try clear c22; try clear c23; try clear c24; try clear c25; try clear c25b0; try clear c25b1; try clear c25b2; try clear c26; try clear c27; try clear c27b0; try clear c27b1; try clear c27b2; try clear hcz10_0; try clear hcz10_1; try clear hcz10_2; try clear hcz10_3; try clear hcz10_4; try clear hcz10_5; try clear hcz14_0; try clear hcz14_1; try clear hcz14_2; try clear hcz14_3; try clear hcz14_4; try clear hcz14_5; try clear hcz18_0; try clear hcz18_1; try clear hcz18_2; try clear hcz18_3; try clear hcz18_4; try clear hcz18_5; try clear hcz22_0; try clear hcz22_1; try clear hcz22_2; try clear hcz22_3; try clear hcz22_4; try clear hcz22_5; try clear hcz26_0; try clear hcz26_1; try clear hcz26_2; try clear hcz26_3; try clear hcz26_4; try clear hcz26_5; try clear hcz28_0; try clear hcz28_1; try clear hcz28_2; try clear hcz28_3; try clear hcz28_4; try clear hcz28_5; try clear hcz6_0; try clear hcz6_1; try clear hcz6_2; try clear hcz6_3; try clear hcz6_4; try clear hcz6_5; try clear hfz10_0; try clear hfz10_1; try clear hfz10_2; try clear hfz10_3; try clear hfz10_4; try clear hfz10_5; try clear hfz14_0; try clear hfz14_1; try clear hfz14_2; try clear hfz14_3; try clear hfz14_4; try clear hfz14_5; try clear hfz18_0; try clear hfz18_1; try clear hfz18_2; try clear hfz18_3; try clear hfz18_4; try clear hfz18_5; try clear hfz22_0; try clear hfz22_1; try clear hfz22_2; try clear hfz22_3; try clear hfz22_4; try clear hfz22_5; try clear hfz26_0; try clear hfz26_1; try clear hfz26_2; try clear hfz26_3; try clear hfz26_4; try clear hfz26_5; try clear hfz28_0; try clear hfz28_1; try clear hfz28_2; try clear hfz28_3; try clear hfz28_4; try clear hfz28_5; try clear hfz6_0; try clear hfz6_1; try clear hfz6_2; try clear hfz6_3; try clear hfz6_4; try clear hfz6_5; try clear p2
            obtain ⟨kq, x5_20, rfl, HA, HJ20, BK492, HB⟩ := hcut
            cases kq with
            | zero => exact absurd HA.out (by simp [diacriticref13_Print.j2])
            | succ kj20 =>
              have H := HA.out
              clear HA
              simp only [diacriticref13_Print.j2] at H
              by_cases c29 : a0 = 2
              · rw [if_pos c29] at H
                have c29b0 : (a0 == 2) = true := beq_iff_eq.mpr c29
                have c29b1 : (a0 != 2) = false := bne_eq_false_iff_eq.mpr c29
                clear c29
                replace H := Option.bind_eq_some_iff.mp H
                obtain ⟨t499, A300, H⟩ := H
                replace H : (if a1_0.size + t499.size ≤ 9223372036854775807 then (if (a1_0 ++ t499).size + x5_20.size ≤ 9223372036854775807 then (some ((a1_0 ++ t499) ++ x5_20)) else (none)) else (none)) = some r := H
                have A30 := Aside0.mk A300
                clear A300
                by_cases c31 : a1_0.size + t499.size ≤ 9223372036854775807
                · rw [if_pos c31] at H
                  have c31b0 := eq_true c31
                  have c31b1 : decide (a1_0.size + t499.size ≤ 9223372036854775807) = true := decide_eq_true c31
                  try have c31b2 : (9223372036854775807 < a1_0.size + t499.size) = False := eq_false (Nat.not_lt.2 c31)
                  by_cases c32 : (a1_0 ++ t499).size + x5_20.size ≤ 9223372036854775807
                  · rw [if_pos c32] at H
                    have c32b0 := eq_true c32
                    have c32b1 : decide ((a1_0 ++ t499).size + x5_20.size ≤ 9223372036854775807) = true := decide_eq_true c32
                    try have c32b2 : (9223372036854775807 < (a1_0 ++ t499).size + x5_20.size) = False := eq_false (Nat.not_lt.2 c32)
                    (try (have c32b2E := c32b2; simp only [ByteArray.size_append] at c32b2E))
                    obtain rfl := Option.some.inj H
                    try go_wp2
                    have n0_ := Aside0.mk (blk_drew BK492.out)
                    have n1_ := Aside0.mk (below_drew1 HB.out)
                    clear BK492
                    clear HB
                    have BK492 := n0_
                    have HB := n1_
                    clear n0_ n1_
                    refine start_ (n := 8) (S := fun w' => w'.cell? ⟨gb492, 0, none⟩ = some (.string a1_0) ∧ w'.cell? ⟨gb492, 1, none⟩ = some (.int .i64 a1_1) ∧ w'.cell? ⟨gb492, 2, none⟩ = some (.int .i64 a1_2) ∧ w'.cell? ⟨gb492, 3, none⟩ = some (.int .i64 a1_3) ∧ w'.cell? ⟨gb492, 4, none⟩ = some (.string a1_4) ∧ w'.cell? ⟨gb492, 5, none⟩ = some (.int .i64 a1_5)) (ds := []) #[false, false, false, false, false, false, false, false] (by kernel_rfl) rfl rfl ⟨(blk_cell BK492.out 0).trans rfl, (blk_cell BK492.out 1).trans rfl, (blk_cell BK492.out 2).trans rfl, (blk_cell BK492.out 3).trans rfl, (blk_cell BK492.out 4).trans rfl, (blk_cell BK492.out 5).trans rfl⟩ (fun hHeld => ?_); refine with_tabW diacriticref13_Print.tab11 diacriticref13_Print.bits11 (fun HT_ HW_ => ?_)
                    generalize wc.drew = w33 at BK492 HB hHeld ⊢
                    refine pure_ (i := 0) (N := some 47) (v := ?_) (a' := ?_) #[true, false, false, false, false, false, false, false] rfl rfl (any_of HT_.out (by kernel_rfl)) (fun _ _ _ h => h) (Or.inl ⟨by rfl, ?_⟩) ?_ ?_
                    rotate_left
                    · intro w'
                      go_simp
                      with_reducible rfl
                    rotate_left
                    · simp only [Act.put, List.setIfInBounds_toArray, List.set_cons_zero, List.set_cons_succ, i64_w, i32_w]
                      rfl
                    refine pure_ (i := 2) (N := some 49) (v := ?_) (a' := ?_) #[true, false, true, false, false, false, false, false] rfl rfl (any_of HT_.out (by kernel_rfl)) (fun _ _ _ h => h) (Or.inl ⟨by rfl, ?_⟩) ?_ ?_
                    rotate_left
                    · intro w'
                      go_simp
                      with_reducible rfl
                    rotate_left
                    · simp only [Act.put, List.setIfInBounds_toArray, List.set_cons_zero, List.set_cons_succ, i64_w, i32_w]
                      rfl
                    refine pure_ (i := 5) (N := some 52) (v := ?_) (a' := ?_) #[true, false, true, false, false, true, false, false] rfl rfl (any_of HT_.out (by kernel_rfl)) (fun _ _ _ h => h) (Or.inl ⟨by rfl, ?_⟩) ?_ ?_
                    rotate_left
                    · intro w'
                      go_simp
                      with_reducible rfl
                    rotate_left
                    · simp only [Act.put, List.setIfInBounds_toArray, List.set_cons_zero, List.set_cons_succ, i64_w, i32_w]
                      rfl
                    refine take_ (i := 1) (N := some 48) (v := ?_) (a' := ?_) #[true, true, true, false, false, true, false, false] rfl rfl (take_ofW HT_.out HW_.out (by kernel_rfl)) (fun _ _ _ h => h) (Or.inl ⟨by rfl, ?_⟩) hHeld ?_ ?_
                    rotate_left
                    · rintro w' ⟨s0, s1, s2, s3, s4, s5⟩
                      go_simp
                      with_reducible rfl
                    rotate_left
                    · simp only [Act.put, List.setIfInBounds_toArray, List.set_cons_zero, List.set_cons_succ, i64_w, i32_w]
                      rfl
                    refine one_ (i := 3) (N := some 50) #[true, true, true, true, false, true, false, false] rfl rfl (one_of HT_.out (by kernel_rfl)) (by decide) (fun K hK => ?_)
                    refine goes_ Tryd.func61 (by kernel_rfl) rfl #[.int .u64 (IntKind.u64.wrap ((x5_20.size : Int))), .int .i64 3] (by rfl) rfl rfl q_93 ?_
                    with_reducible refine (diacriticref01_Big.calls kj20 (IntKind.u64.wrap ((x5_20.size : Int))) 3 t499 _ A30.out).mono ?_
                    rintro e w34 ⟨rfl, hb⟩
                    refine ⟨_, rfl, ?_⟩
                    have n0_ := Aside0.mk (blk_below (g := gb492) (o := .cells #[.string a1_0, .int .i64 a1_1, .int .i64 a1_2, .int .i64 a1_3, .string a1_4, .int .i64 a1_5] 44 (0, 0)) q_91 hb)
                    have n1_ := Aside0.mk (below_step q_92 hb)
                    clear BK492
                    clear HB
                    have BK492 := n0_
                    have HB := n1_
                    clear n0_ n1_
                    (try clear hb)
                    (try clear hb2)
                    (try clear hk)
                    (try clear hi)
                    refine hK.out _ _ ⟨(blk_cell BK492.out 0).trans rfl, (blk_cell BK492.out 1).trans rfl, (blk_cell BK492.out 2).trans rfl, (blk_cell BK492.out 3).trans rfl, (blk_cell BK492.out 4).trans rfl, (blk_cell BK492.out 5).trans rfl⟩ (fun hHeld => ?_)
                    clear hK K
                    refine norm_ (a' := ?_) ?_ ?_
                    rotate_left
                    · show Act.put _ (some 50) _ = _
                      simp only [Act.put, List.setIfInBounds_toArray, List.set_cons_zero, List.set_cons_succ, i64_w, i32_w]
                      rfl
                    refine pure_ (i := 4) (N := some 51) (v := ?_) (a' := ?_) #[true, true, true, true, true, true, false, false] rfl rfl (any_of HT_.out (by kernel_rfl)) (fun _ _ _ h => h) (Or.inl ⟨by rfl, ?_⟩) ?_ ?_
                    rotate_left
                    · intro w'
                      go_simp
                      with_reducible rfl
                    rotate_left
                    · simp only [Act.put, List.setIfInBounds_toArray, List.set_cons_zero, List.set_cons_succ, i64_w, i32_w]
                      rfl
                    refine pure_ (i := 6) (N := some 53) (v := ?_) (a' := ?_) #[true, true, true, true, true, true, true, false] rfl rfl (any_of HT_.out (by kernel_rfl)) (fun _ _ _ h => h) (Or.inl ⟨by rfl, ?_⟩) ?_ ?_
                    rotate_left
                    · intro w'
                      go_simp
                      with_reducible rfl
                    rotate_left
                    · simp only [Act.put, List.setIfInBounds_toArray, List.set_cons_zero, List.set_cons_succ, i64_w, i32_w]
                      rfl
                    refine pure_ (i := 7) (N := some 4) (v := ?_) (a' := ?_) #[true, true, true, true, true, true, true, true] rfl rfl (any_of HT_.out (by kernel_rfl)) (fun _ _ _ h => h) (Or.inl ⟨by rfl, ?_⟩) ?_ ?_
                    rotate_left
                    · intro w'
                      go_simp
                      with_reducible rfl
                    rotate_left
                    · simp only [Act.put, List.setIfInBounds_toArray, List.set_cons_zero, List.set_cons_succ, i64_w, i32_w]
                      rfl
                    refine done_ (done_of HT_.out (by kernel_rfl)) ?_
                    try go_wp2
                    go_ret
                    exact ⟨q_11, q_92⟩
                  · rw [if_neg c32] at H
                    exact absurd H (by simp)
                · rw [if_neg c31] at H
                  exact absurd H (by simp)
              · rw [if_neg c29] at H
                have c29b0 : (a0 == 2) = false := beq_eq_false_iff_ne.mpr c29
                have c29b1 : (a0 != 2) = true := bne_iff_ne.mpr c29
                replace H := Option.bind_eq_some_iff.mp H
                obtain ⟨t500, A350, H⟩ := H
                replace H : (if a0 = 4 then ((diacriticref01_Safe.f (IntKind.u64.wrap ((x5_20.size : Int)))).bind fun t501 => (if a1_0.size + t501.size ≤ 9223372036854775807 then ((diacriticref01_Big.f kj20 (IntKind.u64.wrap (a1_1)) 1).bind fun t502 => (if (a1_0 ++ t501).size + t502.size ≤ 9223372036854775807 then ((diacriticref01_Big.f kj20 (IntKind.u64.wrap (a1_2)) 1).bind fun t503 => (if ((a1_0 ++ t501) ++ t502).size + t503.size ≤ 9223372036854775807 then (if (((a1_0 ++ t501) ++ t502) ++ t503).size + x5_20.size ≤ 9223372036854775807 then (some ((((a1_0 ++ t501) ++ t502) ++ t503) ++ x5_20)) else (none)) else (none))) else (none))) else (none))) else (if a1_0.size + t500.size ≤ 9223372036854775807 then ((diacriticref01_Big.f kj20 (IntKind.u64.wrap (a1_1)) 1).bind fun t504 => (if (a1_0 ++ t500).size + t504.size ≤ 9223372036854775807 then ((diacriticref01_Big.f kj20 (IntKind.u64.wrap (a1_2)) 1).bind fun t505 => (if ((a1_0 ++ t500) ++ t504).size + t505.size ≤ 9223372036854775807 then (if (((a1_0 ++ t500) ++ t504) ++ t505).size + x5_20.size ≤ 9223372036854775807 then (some ((((a1_0 ++ t500) ++ t504) ++ t505) ++ x5_20)) else (none)) else (none))) else (none))) else (none))) = some r := H
                have A35 := Aside0.mk A350
                clear A350
                by_cases c36 : a0 = 4
                · rw [if_pos c36] at H
                  have c36b0 : (a0 == 4) = true := beq_iff_eq.mpr c36
                  have c36b1 : (a0 != 4) = false := bne_eq_false_iff_eq.mpr c36
                  clear c36
                  replace H := Option.bind_eq_some_iff.mp H
                  obtain ⟨t501, A370, H⟩ := H
                  replace H : (if a1_0.size + t501.size ≤ 9223372036854775807 then ((diacriticref01_Big.f kj20 (IntKind.u64.wrap (a1_1)) 1).bind fun t502 => (if (a1_0 ++ t501).size + t502.size ≤ 9223372036854775807 then ((diacriticref01_Big.f kj20 (IntKind.u64.wrap (a1_2)) 1).bind fun t503 => (if ((a1_0 ++ t501) ++ t502).size + t503.size ≤ 9223372036854775807 then (if (((a1_0 ++ t501) ++ t502) ++ t503).size + x5_20.size ≤ 9223372036854775807 then (some ((((a1_0 ++ t501) ++ t502) ++ t503) ++ x5_20)) else (none)) else (none))) else (none))) else (none)) = some r := H
                  have A37 := Aside0.mk A370
                  clear A370
                  by_cases c38 : a1_0.size + t501.size ≤ 9223372036854775807
                  · rw [if_pos c38] at H
                    have c38b0 := eq_true c38
                    have c38b1 : decide (a1_0.size + t501.size ≤ 9223372036854775807) = true := decide_eq_true c38
                    try have c38b2 : (9223372036854775807 < a1_0.size + t501.size) = False := eq_false (Nat.not_lt.2 c38)
                    replace H := Option.bind_eq_some_iff.mp H
                    obtain ⟨t502, A390, H⟩ := H
                    replace H : (if (a1_0 ++ t501).size + t502.size ≤ 9223372036854775807 then ((diacriticref01_Big.f kj20 (IntKind.u64.wrap (a1_2)) 1).bind fun t503 => (if ((a1_0 ++ t501) ++ t502).size + t503.size ≤ 9223372036854775807 then (if (((a1_0 ++ t501) ++ t502) ++ t503).size + x5_20.size ≤ 9223372036854775807 then (some ((((a1_0 ++ t501) ++ t502) ++ t503) ++ x5_20)) else (none)) else (none))) else (none)) = some r := H
                    have A39 := Aside0.mk A390
                    clear A390
                    by_cases c40 : (a1_0 ++ t501).size + t502.size ≤ 9223372036854775807
                    · rw [if_pos c40] at H
                      have c40b0 := eq_true c40
                      have c40b1 : decide ((a1_0 ++ t501).size + t502.size ≤ 9223372036854775807) = true := decide_eq_true c40
                      try have c40b2 : (9223372036854775807 < (a1_0 ++ t501).size + t502.size) = False := eq_false (Nat.not_lt.2 c40)
                      (try (have c40b2E := c40b2; simp only [ByteArray.size_append] at c40b2E))
                      replace H := Option.bind_eq_some_iff.mp H
                      obtain ⟨t503, A410, H⟩ := H
                      replace H : (if ((a1_0 ++ t501) ++ t502).size + t503.size ≤ 9223372036854775807 then (if (((a1_0 ++ t501) ++ t502) ++ t503).size + x5_20.size ≤ 9223372036854775807 then (some ((((a1_0 ++ t501) ++ t502) ++ t503) ++ x5_20)) else (none)) else (none)) = some r := H
                      have A41 := Aside0.mk A410
                      clear A410
                      by_cases c42 : ((a1_0 ++ t501) ++ t502).size + t503.size ≤ 9223372036854775807
                      · rw [if_pos c42] at H
                        have c42b0 := eq_true c42
                        have c42b1 : decide (((a1_0 ++ t501) ++ t502).size + t503.size ≤ 9223372036854775807) = true := decide_eq_true c42
                        try have c42b2 : (9223372036854775807 < ((a1_0 ++ t501) ++ t502).size + t503.size) = False := eq_false (Nat.not_lt.2 c42)
                        (try (have c42b2E := c42b2; simp only [ByteArray.size_append] at c42b2E))
                        by_cases c43 : (((a1_0 ++ t501) ++ t502) ++ t503).size + x5_20.size ≤ 9223372036854775807
                        · rw [if_pos c43] at H
                          have c43b0 := eq_true c43
                          have c43b1 : decide ((((a1_0 ++ t501) ++ t502) ++ t503).size + x5_20.size ≤ 9223372036854775807) = true := decide_eq_true c43
                          try have c43b2 : (9223372036854775807 < (((a1_0 ++ t501) ++ t502) ++ t503).size + x5_20.size) = False := eq_false (Nat.not_lt.2 c43)
                          (try (have c43b2E := c43b2; simp only [ByteArray.size_append] at c43b2E))
                          obtain rfl := Option.some.inj H
                          try go_wp2_with (first | ((with_reducible refine gate_callee (f := 61) rfl ?_); refine goesL_ (some 55) rfl rfl Tryd.func61 (by kernel_rfl) rfl #[.int .u64 (IntKind.u64.wrap ((x5_20.size : Int))), .int .i64 4] rfl q_93 ?_; (with_reducible refine (diacriticref01_Big.calls kj20 (IntKind.u64.wrap ((x5_20.size : Int))) 4 t500 _ A35.out).mono ?_); rintro e w44 ⟨rfl, hb⟩; refine ⟨_, rfl, ?_⟩; have n0_ := Aside0.mk (blk_below (g := gb492) (o := .cells #[.string a1_0, .int .i64 a1_1, .int .i64 a1_2, .int .i64 a1_3, .string a1_4, .int .i64 a1_5] 44 (0, 0)) q_91 hb); have n1_ := Aside0.mk (below_step q_92 hb); clear BK492; clear HB; have BK492 := n0_; have HB := n1_; clear n0_ n1_; (try clear hb); (try clear hb2); (try clear hk); (try clear hi)) | ((with_reducible refine gate_callee (f := 62) rfl ?_); refine goesL_ (some 59) rfl rfl Tryd.func62 (by kernel_rfl) rfl #[.int .u64 (IntKind.u64.wrap ((x5_20.size : Int)))] rfl q_93 ?_; (with_reducible refine (diacriticref01_Safe.calls (IntKind.u64.wrap ((x5_20.size : Int))) t501 _ A37.out).mono ?_); rintro e w45 ⟨rfl, hb⟩; refine ⟨_, rfl, ?_⟩; have n0_ := Aside0.mk (blk_below (g := gb492) (o := .cells #[.string a1_0, .int .i64 a1_1, .int .i64 a1_2, .int .i64 a1_3, .string a1_4, .int .i64 a1_5] 44 (0, 0)) q_91 hb); have n1_ := Aside0.mk (below_step q_92 hb); clear BK492; clear HB; have BK492 := n0_; have HB := n1_; clear n0_ n1_; (try clear hb); (try clear hb2); (try clear hk); (try clear hi)))
                          have n0_ := Aside0.mk (blk_drew BK492.out)
                          have n1_ := Aside0.mk (below_drew1 HB.out)
                          clear BK492
                          clear HB
                          have BK492 := n0_
                          have HB := n1_
                          clear n0_ n1_
                          refine start_ (n := 17) (S := fun w' => w'.cell? ⟨gb492, 0, none⟩ = some (.string a1_0) ∧ w'.cell? ⟨gb492, 1, none⟩ = some (.int .i64 a1_1) ∧ w'.cell? ⟨gb492, 2, none⟩ = some (.int .i64 a1_2) ∧ w'.cell? ⟨gb492, 3, none⟩ = some (.int .i64 a1_3) ∧ w'.cell? ⟨gb492, 4, none⟩ = some (.string a1_4) ∧ w'.cell? ⟨gb492, 5, none⟩ = some (.int .i64 a1_5)) (ds := []) #[false, false, false, false, false, false, false, false, false, false, false, false, false, false, false, false, false] (by kernel_rfl) rfl rfl ⟨(blk_cell BK492.out 0).trans rfl, (blk_cell BK492.out 1).trans rfl, (blk_cell BK492.out 2).trans rfl, (blk_cell BK492.out 3).trans rfl, (blk_cell BK492.out 4).trans rfl, (blk_cell BK492.out 5).trans rfl⟩ (fun hHeld => ?_); refine with_tabW diacriticref13_Print.tab15 diacriticref13_Print.bits15 (fun HT_ HW_ => ?_)
                          generalize w45.drew = w46 at BK492 HB hHeld ⊢
                          refine pure_ (i := 0) (N := some 60) (v := ?_) (a' := ?_) #[true, false, false, false, false, false, false, false, false, false, false, false, false, false, false, false, false] rfl rfl (any_of HT_.out (by kernel_rfl)) (fun _ _ _ h => h) (Or.inl ⟨by rfl, ?_⟩) ?_ ?_
                          rotate_left
                          · intro w'
                            go_simp
                            with_reducible rfl
                          rotate_left
                          · simp only [Act.put, List.setIfInBounds_toArray, List.set_cons_zero, List.set_cons_succ, i64_w, i32_w]
                            rfl
                          refine pure_ (i := 2) (N := some 62) (v := ?_) (a' := ?_) #[true, false, true, false, false, false, false, false, false, false, false, false, false, false, false, false, false] rfl rfl (any_of HT_.out (by kernel_rfl)) (fun _ _ _ h => h) (Or.inl ⟨by rfl, ?_⟩) ?_ ?_
                          rotate_left
                          · intro w'
                            go_simp
                            with_reducible rfl
                          rotate_left
                          · simp only [Act.put, List.setIfInBounds_toArray, List.set_cons_zero, List.set_cons_succ, i64_w, i32_w]
                            rfl
                          refine pure_ (i := 4) (N := some 64) (v := ?_) (a' := ?_) #[true, false, true, false, true, false, false, false, false, false, false, false, false, false, false, false, false] rfl rfl (any_of HT_.out (by kernel_rfl)) (fun _ _ _ h => h) (Or.inl ⟨by rfl, ?_⟩) ?_ ?_
                          rotate_left
                          · intro w'
                            go_simp
                            with_reducible rfl
                          rotate_left
                          · simp only [Act.put, List.setIfInBounds_toArray, List.set_cons_zero, List.set_cons_succ, i64_w, i32_w]
                            rfl
                          refine pure_ (i := 9) (N := some 69) (v := ?_) (a' := ?_) #[true, false, true, false, true, false, false, false, false, true, false, false, false, false, false, false, false] rfl rfl (any_of HT_.out (by kernel_rfl)) (fun _ _ _ h => h) (Or.inl ⟨by rfl, ?_⟩) ?_ ?_
                          rotate_left
                          · intro w'
                            go_simp
                            with_reducible rfl
                          rotate_left
                          · simp only [Act.put, List.setIfInBounds_toArray, List.set_cons_zero, List.set_cons_succ, i64_w, i32_w]
                            rfl
                          refine pure_ (i := 14) (N := some 74) (v := ?_) (a' := ?_) #[true, false, true, false, true, false, false, false, false, true, false, false, false, false, true, false, false] rfl rfl (any_of HT_.out (by kernel_rfl)) (fun _ _ _ h => h) (Or.inl ⟨by rfl, ?_⟩) ?_ ?_
                          rotate_left
                          · intro w'
                            go_simp
                            with_reducible rfl
                          rotate_left
                          · simp only [Act.put, List.setIfInBounds_toArray, List.set_cons_zero, List.set_cons_succ, i64_w, i32_w]
                            rfl
                          refine take_ (i := 1) (N := some 61) (v := ?_) (a' := ?_) #[true, true, true, false, true, false, false, false, false, true, false, false, false, false, true, false, false] rfl rfl (take_ofW HT_.out HW_.out (by kernel_rfl)) (fun _ _ _ h => h) (Or.inl ⟨by rfl, ?_⟩) hHeld ?_ ?_
                          rotate_left
                          · rintro w' ⟨s0, s1, s2, s3, s4, s5⟩
                            go_simp
                            with_reducible rfl
                          rotate_left
                          · simp only [Act.put, List.setIfInBounds_toArray, List.set_cons_zero, List.set_cons_succ, i64_w, i32_w]
                            rfl
                          refine pure_ (i := 3) (N := some 63) (v := ?_) (a' := ?_) #[true, true, true, true, true, false, false, false, false, true, false, false, false, false, true, false, false] rfl rfl (any_of HT_.out (by kernel_rfl)) (fun _ _ _ h => h) (Or.inl ⟨by rfl, ?_⟩) ?_ ?_
                          rotate_left
                          · intro w'
                            go_simp
                            with_reducible rfl
                          rotate_left
                          · simp only [Act.put, List.setIfInBounds_toArray, List.set_cons_zero, List.set_cons_succ, i64_w, i32_w]
                            rfl
                          refine take_ (i := 5) (N := some 65) (v := ?_) (a' := ?_) #[true, true, true, true, true, true, false, false, false, true, false, false, false, false, true, false, false] rfl rfl (take_ofW HT_.out HW_.out (by kernel_rfl)) (fun _ _ _ h => h) (Or.inl ⟨by rfl, ?_⟩) hHeld ?_ ?_
                          rotate_left
                          · rintro w' ⟨s0, s1, s2, s3, s4, s5⟩
                            go_simp
                            with_reducible rfl
                          rotate_left
                          · simp only [Act.put, List.setIfInBounds_toArray, List.set_cons_zero, List.set_cons_succ, i64_w, i32_w]
                            rfl
                          refine pure_ (i := 6) (N := some 66) (v := ?_) (a' := ?_) #[true, true, true, true, true, true, true, false, false, true, false, false, false, false, true, false, false] rfl rfl (any_of HT_.out (by kernel_rfl)) (fun _ _ _ h => h) (Or.inl ⟨by rfl, ?_⟩) ?_ ?_
                          rotate_left
                          · intro w'
                            go_simp
                            with_reducible rfl
                          rotate_left
                          · simp only [Act.put, List.setIfInBounds_toArray, List.set_cons_zero, List.set_cons_succ, i64_w, i32_w]
                            rfl
                          refine take_ (i := 10) (N := some 70) (v := ?_) (a' := ?_) #[true, true, true, true, true, true, true, false, false, true, true, false, false, false, true, false, false] rfl rfl (take_ofW HT_.out HW_.out (by kernel_rfl)) (fun _ _ _ h => h) (Or.inl ⟨by rfl, ?_⟩) hHeld ?_ ?_
                          rotate_left
                          · rintro w' ⟨s0, s1, s2, s3, s4, s5⟩
                            go_simp
                            with_reducible rfl
                          rotate_left
                          · simp only [Act.put, List.setIfInBounds_toArray, List.set_cons_zero, List.set_cons_succ, i64_w, i32_w]
                            rfl
                          refine pure_ (i := 11) (N := some 71) (v := ?_) (a' := ?_) #[true, true, true, true, true, true, true, false, false, true, true, true, false, false, true, false, false] rfl rfl (any_of HT_.out (by kernel_rfl)) (fun _ _ _ h => h) (Or.inl ⟨by rfl, ?_⟩) ?_ ?_
                          rotate_left
                          · intro w'
                            go_simp
                            with_reducible rfl
                          rotate_left
                          · simp only [Act.put, List.setIfInBounds_toArray, List.set_cons_zero, List.set_cons_succ, i64_w, i32_w]
                            rfl
                          refine one_ (i := 7) (N := some 67) #[true, true, true, true, true, true, true, true, false, true, true, true, false, false, true, false, false] rfl rfl (one_of HT_.out (by kernel_rfl)) (by decide) (fun K hK => ?_)
                          refine goes_ Tryd.func61 (by kernel_rfl) rfl #[.int .u64 (IntKind.u64.wrap (a1_1)), .int .i64 1] (by rfl) rfl rfl q_7 ?_
                          with_reducible refine (diacriticref01_Big.calls kj20 (IntKind.u64.wrap (a1_1)) 1 t502 _ A39.out).mono ?_
                          rintro e w47 ⟨rfl, hb⟩
                          refine ⟨_, rfl, ?_⟩
                          have n0_ := Aside0.mk (blk_below (g := gb492) (o := .cells #[.string a1_0, .int .i64 a1_1, .int .i64 a1_2, .int .i64 a1_3, .string a1_4, .int .i64 a1_5] 44 (0, 0)) q_91 hb)
                          have n1_ := Aside0.mk (below_step q_92 hb)
                          clear BK492
                          clear HB
                          have BK492 := n0_
                          have HB := n1_
                          clear n0_ n1_
                          (try clear hb)
                          (try clear hb2)
                          (try clear hk)
                          (try clear hi)
                          refine hK.out _ _ ⟨(blk_cell BK492.out 0).trans rfl, (blk_cell BK492.out 1).trans rfl, (blk_cell BK492.out 2).trans rfl, (blk_cell BK492.out 3).trans rfl, (blk_cell BK492.out 4).trans rfl, (blk_cell BK492.out 5).trans rfl⟩ (fun hHeld => ?_)
                          clear hK K
                          refine norm_ (a' := ?_) ?_ ?_
                          rotate_left
                          · show Act.put _ (some 67) _ = _
                            simp only [Act.put, List.setIfInBounds_toArray, List.set_cons_zero, List.set_cons_succ, i64_w, i32_w]
                            rfl
                          refine pure_ (i := 8) (N := some 68) (v := ?_) (a' := ?_) #[true, true, true, true, true, true, true, true, true, true, true, true, false, false, true, false, false] rfl rfl (any_of HT_.out (by kernel_rfl)) (fun _ _ _ h => h) (Or.inl ⟨by rfl, ?_⟩) ?_ ?_
                          rotate_left
                          · intro w'
                            go_simp
                            with_reducible rfl
                          rotate_left
                          · simp only [Act.put, List.setIfInBounds_toArray, List.set_cons_zero, List.set_cons_succ, i64_w, i32_w]
                            rfl
                          refine one_ (i := 12) (N := some 72) #[true, true, true, true, true, true, true, true, true, true, true, true, true, false, true, false, false] rfl rfl (one_of HT_.out (by kernel_rfl)) (by decide) (fun K hK => ?_)
                          refine goes_ Tryd.func61 (by kernel_rfl) rfl #[.int .u64 (IntKind.u64.wrap (a1_2)), .int .i64 1] (by rfl) rfl rfl q_7 ?_
                          with_reducible refine (diacriticref01_Big.calls kj20 (IntKind.u64.wrap (a1_2)) 1 t503 _ A41.out).mono ?_
                          rintro e w48 ⟨rfl, hb⟩
                          refine ⟨_, rfl, ?_⟩
                          have n0_ := Aside0.mk (blk_below (g := gb492) (o := .cells #[.string a1_0, .int .i64 a1_1, .int .i64 a1_2, .int .i64 a1_3, .string a1_4, .int .i64 a1_5] 44 (0, 0)) q_91 hb)
                          have n1_ := Aside0.mk (below_step q_92 hb)
                          clear BK492
                          clear HB
                          have BK492 := n0_
                          have HB := n1_
                          clear n0_ n1_
                          (try clear hb)
                          (try clear hb2)
                          (try clear hk)
                          (try clear hi)
                          refine hK.out _ _ ⟨(blk_cell BK492.out 0).trans rfl, (blk_cell BK492.out 1).trans rfl, (blk_cell BK492.out 2).trans rfl, (blk_cell BK492.out 3).trans rfl, (blk_cell BK492.out 4).trans rfl, (blk_cell BK492.out 5).trans rfl⟩ (fun hHeld => ?_)
                          clear hK K
                          refine norm_ (a' := ?_) ?_ ?_
                          rotate_left
                          · show Act.put _ (some 72) _ = _
                            simp only [Act.put, List.setIfInBounds_toArray, List.set_cons_zero, List.set_cons_succ, i64_w, i32_w]
                            rfl
                          refine pure_ (i := 13) (N := some 73) (v := ?_) (a' := ?_) #[true, true, true, true, true, true, true, true, true, true, true, true, true, true, true, false, false] rfl rfl (any_of HT_.out (by kernel_rfl)) (fun _ _ _ h => h) (Or.inl ⟨by rfl, ?_⟩) ?_ ?_
                          rotate_left
                          · intro w'
                            go_simp
                            with_reducible rfl
                          rotate_left
                          · simp only [Act.put, List.setIfInBounds_toArray, List.set_cons_zero, List.set_cons_succ, i64_w, i32_w]
                            rfl
                          refine pure_ (i := 15) (N := some 75) (v := ?_) (a' := ?_) #[true, true, true, true, true, true, true, true, true, true, true, true, true, true, true, true, false] rfl rfl (any_of HT_.out (by kernel_rfl)) (fun _ _ _ h => h) (Or.inl ⟨by rfl, ?_⟩) ?_ ?_
                          rotate_left
                          · intro w'
                            go_simp
                            with_reducible rfl
                          rotate_left
                          · simp only [Act.put, List.setIfInBounds_toArray, List.set_cons_zero, List.set_cons_succ, i64_w, i32_w]
                            rfl
                          refine pure_ (i := 16) (N := some 4) (v := ?_) (a' := ?_) #[true, true, true, true, true, true, true, true, true, true, true, true, true, true, true, true, true] rfl rfl (any_of HT_.out (by kernel_rfl)) (fun _ _ _ h => h) (Or.inl ⟨by rfl, ?_⟩) ?_ ?_
                          rotate_left
                          · intro w'
                            go_simp
                            with_reducible rfl
                          rotate_left
                          · simp only [Act.put, List.setIfInBounds_toArray, List.set_cons_zero, List.set_cons_succ, i64_w, i32_w]
                            rfl
                          refine done_ (done_of HT_.out (by kernel_rfl)) ?_
                          try go_wp2
                          go_ret
                          exact ⟨q_11, q_92⟩
                        · rw [if_neg c43] at H
                          exact absurd H (by simp)
                      · rw [if_neg c42] at H
                        exact absurd H (by simp)
                    · rw [if_neg c40] at H
                      exact absurd H (by simp)
                  · rw [if_neg c38] at H
                    exact absurd H (by simp)
                · rw [if_neg c36] at H
                  have c36b0 : (a0 == 4) = false := beq_eq_false_iff_ne.mpr c36
                  have c36b1 : (a0 != 4) = true := bne_iff_ne.mpr c36
                  by_cases c49 : a1_0.size + t500.size ≤ 9223372036854775807
                  · rw [if_pos c49] at H
                    have c49b0 := eq_true c49
                    have c49b1 : decide (a1_0.size + t500.size ≤ 9223372036854775807) = true := decide_eq_true c49
                    try have c49b2 : (9223372036854775807 < a1_0.size + t500.size) = False := eq_false (Nat.not_lt.2 c49)
                    replace H := Option.bind_eq_some_iff.mp H
                    obtain ⟨t504, A500, H⟩ := H
                    replace H : (if (a1_0 ++ t500).size + t504.size ≤ 9223372036854775807 then ((diacriticref01_Big.f kj20 (IntKind.u64.wrap (a1_2)) 1).bind fun t505 => (if ((a1_0 ++ t500) ++ t504).size + t505.size ≤ 9223372036854775807 then (if (((a1_0 ++ t500) ++ t504) ++ t505).size + x5_20.size ≤ 9223372036854775807 then (some ((((a1_0 ++ t500) ++ t504) ++ t505) ++ x5_20)) else (none)) else (none))) else (none)) = some r := H
                    have A50 := Aside0.mk A500
                    clear A500
                    by_cases c51 : (a1_0 ++ t500).size + t504.size ≤ 9223372036854775807
                    · rw [if_pos c51] at H
                      have c51b0 := eq_true c51
                      have c51b1 : decide ((a1_0 ++ t500).size + t504.size ≤ 9223372036854775807) = true := decide_eq_true c51
                      try have c51b2 : (9223372036854775807 < (a1_0 ++ t500).size + t504.size) = False := eq_false (Nat.not_lt.2 c51)
                      (try (have c51b2E := c51b2; simp only [ByteArray.size_append] at c51b2E))
                      replace H := Option.bind_eq_some_iff.mp H
                      obtain ⟨t505, A520, H⟩ := H
                      replace H : (if ((a1_0 ++ t500) ++ t504).size + t505.size ≤ 9223372036854775807 then (if (((a1_0 ++ t500) ++ t504) ++ t505).size + x5_20.size ≤ 9223372036854775807 then (some ((((a1_0 ++ t500) ++ t504) ++ t505) ++ x5_20)) else (none)) else (none)) = some r := H
                      have A52 := Aside0.mk A520
                      clear A520
                      by_cases c53 : ((a1_0 ++ t500) ++ t504).size + t505.size ≤ 9223372036854775807
                      · rw [if_pos c53] at H
                        have c53b0 := eq_true c53
                        have c53b1 : decide (((a1_0 ++ t500) ++ t504).size + t505.size ≤ 9223372036854775807) = true := decide_eq_true c53
                        try have c53b2 : (9223372036854775807 < ((a1_0 ++ t500) ++ t504).size + t505.size) = False := eq_false (Nat.not_lt.2 c53)
                        (try (have c53b2E := c53b2; simp only [ByteArray.size_append] at c53b2E))
                        by_cases c54 : (((a1_0 ++ t500) ++ t504) ++ t505).size + x5_20.size ≤ 9223372036854775807
                        · rw [if_pos c54] at H
                          have c54b0 := eq_true c54
                          have c54b1 : decide ((((a1_0 ++ t500) ++ t504) ++ t505).size + x5_20.size ≤ 9223372036854775807) = true := decide_eq_true c54
                          try have c54b2 : (9223372036854775807 < (((a1_0 ++ t500) ++ t504) ++ t505).size + x5_20.size) = False := eq_false (Nat.not_lt.2 c54)
                          (try (have c54b2E := c54b2; simp only [ByteArray.size_append] at c54b2E))
                          obtain rfl := Option.some.inj H
                          try go_wp2_with (first | ((with_reducible refine gate_callee (f := 61) rfl ?_); refine goesL_ (some 55) rfl rfl Tryd.func61 (by kernel_rfl) rfl #[.int .u64 (IntKind.u64.wrap ((x5_20.size : Int))), .int .i64 4] rfl q_93 ?_; (with_reducible refine (diacriticref01_Big.calls kj20 (IntKind.u64.wrap ((x5_20.size : Int))) 4 t500 _ A35.out).mono ?_); rintro e w55 ⟨rfl, hb⟩; refine ⟨_, rfl, ?_⟩; have n0_ := Aside0.mk (blk_below (g := gb492) (o := .cells #[.string a1_0, .int .i64 a1_1, .int .i64 a1_2, .int .i64 a1_3, .string a1_4, .int .i64 a1_5] 44 (0, 0)) q_91 hb); have n1_ := Aside0.mk (below_step q_92 hb); clear BK492; clear HB; have BK492 := n0_; have HB := n1_; clear n0_ n1_; (try clear hb); (try clear hb2); (try clear hk); (try clear hi)))
                          have n0_ := Aside0.mk (blk_drew BK492.out)
                          have n1_ := Aside0.mk (below_drew1 HB.out)
                          clear BK492
                          clear HB
                          have BK492 := n0_
                          have HB := n1_
                          clear n0_ n1_
                          refine start_ (n := 17) (S := fun w' => w'.cell? ⟨gb492, 0, none⟩ = some (.string a1_0) ∧ w'.cell? ⟨gb492, 1, none⟩ = some (.int .i64 a1_1) ∧ w'.cell? ⟨gb492, 2, none⟩ = some (.int .i64 a1_2) ∧ w'.cell? ⟨gb492, 3, none⟩ = some (.int .i64 a1_3) ∧ w'.cell? ⟨gb492, 4, none⟩ = some (.string a1_4) ∧ w'.cell? ⟨gb492, 5, none⟩ = some (.int .i64 a1_5)) (ds := []) #[false, false, false, false, false, false, false, false, false, false, false, false, false, false, false, false, false] (by kernel_rfl) rfl rfl ⟨(blk_cell BK492.out 0).trans rfl, (blk_cell BK492.out 1).trans rfl, (blk_cell BK492.out 2).trans rfl, (blk_cell BK492.out 3).trans rfl, (blk_cell BK492.out 4).trans rfl, (blk_cell BK492.out 5).trans rfl⟩ (fun hHeld => ?_); refine with_tabW diacriticref13_Print.tab15 diacriticref13_Print.bits15 (fun HT_ HW_ => ?_)
                          generalize w55.drew = w56 at BK492 HB hHeld ⊢
                          refine pure_ (i := 0) (N := some 60) (v := ?_) (a' := ?_) #[true, false, false, false, false, false, false, false, false, false, false, false, false, false, false, false, false] rfl rfl (any_of HT_.out (by kernel_rfl)) (fun _ _ _ h => h) (Or.inl ⟨by rfl, ?_⟩) ?_ ?_
                          rotate_left
                          · intro w'
                            go_simp
                            with_reducible rfl
                          rotate_left
                          · simp only [Act.put, List.setIfInBounds_toArray, List.set_cons_zero, List.set_cons_succ, i64_w, i32_w]
                            rfl
                          refine pure_ (i := 2) (N := some 62) (v := ?_) (a' := ?_) #[true, false, true, false, false, false, false, false, false, false, false, false, false, false, false, false, false] rfl rfl (any_of HT_.out (by kernel_rfl)) (fun _ _ _ h => h) (Or.inl ⟨by rfl, ?_⟩) ?_ ?_
                          rotate_left
                          · intro w'
                            go_simp
                            with_reducible rfl
                          rotate_left
                          · simp only [Act.put, List.setIfInBounds_toArray, List.set_cons_zero, List.set_cons_succ, i64_w, i32_w]
                            rfl
                          refine pure_ (i := 4) (N := some 64) (v := ?_) (a' := ?_) #[true, false, true, false, true, false, false, false, false, false, false, false, false, false, false, false, false] rfl rfl (any_of HT_.out (by kernel_rfl)) (fun _ _ _ h => h) (Or.inl ⟨by rfl, ?_⟩) ?_ ?_
                          rotate_left
                          · intro w'
                            go_simp
                            with_reducible rfl
                          rotate_left
                          · simp only [Act.put, List.setIfInBounds_toArray, List.set_cons_zero, List.set_cons_succ, i64_w, i32_w]
                            rfl
                          refine pure_ (i := 9) (N := some 69) (v := ?_) (a' := ?_) #[true, false, true, false, true, false, false, false, false, true, false, false, false, false, false, false, false] rfl rfl (any_of HT_.out (by kernel_rfl)) (fun _ _ _ h => h) (Or.inl ⟨by rfl, ?_⟩) ?_ ?_
                          rotate_left
                          · intro w'
                            go_simp
                            with_reducible rfl
                          rotate_left
                          · simp only [Act.put, List.setIfInBounds_toArray, List.set_cons_zero, List.set_cons_succ, i64_w, i32_w]
                            rfl
                          refine pure_ (i := 14) (N := some 74) (v := ?_) (a' := ?_) #[true, false, true, false, true, false, false, false, false, true, false, false, false, false, true, false, false] rfl rfl (any_of HT_.out (by kernel_rfl)) (fun _ _ _ h => h) (Or.inl ⟨by rfl, ?_⟩) ?_ ?_
                          rotate_left
                          · intro w'
                            go_simp
                            with_reducible rfl
                          rotate_left
                          · simp only [Act.put, List.setIfInBounds_toArray, List.set_cons_zero, List.set_cons_succ, i64_w, i32_w]
                            rfl
                          refine take_ (i := 1) (N := some 61) (v := ?_) (a' := ?_) #[true, true, true, false, true, false, false, false, false, true, false, false, false, false, true, false, false] rfl rfl (take_ofW HT_.out HW_.out (by kernel_rfl)) (fun _ _ _ h => h) (Or.inl ⟨by rfl, ?_⟩) hHeld ?_ ?_
                          rotate_left
                          · rintro w' ⟨s0, s1, s2, s3, s4, s5⟩
                            go_simp
                            with_reducible rfl
                          rotate_left
                          · simp only [Act.put, List.setIfInBounds_toArray, List.set_cons_zero, List.set_cons_succ, i64_w, i32_w]
                            rfl
                          refine pure_ (i := 3) (N := some 63) (v := ?_) (a' := ?_) #[true, true, true, true, true, false, false, false, false, true, false, false, false, false, true, false, false] rfl rfl (any_of HT_.out (by kernel_rfl)) (fun _ _ _ h => h) (Or.inl ⟨by rfl, ?_⟩) ?_ ?_
                          rotate_left
                          · intro w'
                            go_simp
                            with_reducible rfl
                          rotate_left
                          · simp only [Act.put, List.setIfInBounds_toArray, List.set_cons_zero, List.set_cons_succ, i64_w, i32_w]
                            rfl
                          refine take_ (i := 5) (N := some 65) (v := ?_) (a' := ?_) #[true, true, true, true, true, true, false, false, false, true, false, false, false, false, true, false, false] rfl rfl (take_ofW HT_.out HW_.out (by kernel_rfl)) (fun _ _ _ h => h) (Or.inl ⟨by rfl, ?_⟩) hHeld ?_ ?_
                          rotate_left
                          · rintro w' ⟨s0, s1, s2, s3, s4, s5⟩
                            go_simp
                            with_reducible rfl
                          rotate_left
                          · simp only [Act.put, List.setIfInBounds_toArray, List.set_cons_zero, List.set_cons_succ, i64_w, i32_w]
                            rfl
                          refine pure_ (i := 6) (N := some 66) (v := ?_) (a' := ?_) #[true, true, true, true, true, true, true, false, false, true, false, false, false, false, true, false, false] rfl rfl (any_of HT_.out (by kernel_rfl)) (fun _ _ _ h => h) (Or.inl ⟨by rfl, ?_⟩) ?_ ?_
                          rotate_left
                          · intro w'
                            go_simp
                            with_reducible rfl
                          rotate_left
                          · simp only [Act.put, List.setIfInBounds_toArray, List.set_cons_zero, List.set_cons_succ, i64_w, i32_w]
                            rfl
                          refine take_ (i := 10) (N := some 70) (v := ?_) (a' := ?_) #[true, true, true, true, true, true, true, false, false, true, true, false, false, false, true, false, false] rfl rfl (take_ofW HT_.out HW_.out (by kernel_rfl)) (fun _ _ _ h => h) (Or.inl ⟨by rfl, ?_⟩) hHeld ?_ ?_
                          rotate_left
                          · rintro w' ⟨s0, s1, s2, s3, s4, s5⟩
                            go_simp
                            with_reducible rfl
                          rotate_left
                          · simp only [Act.put, List.setIfInBounds_toArray, List.set_cons_zero, List.set_cons_succ, i64_w, i32_w]
                            rfl
                          refine pure_ (i := 11) (N := some 71) (v := ?_) (a' := ?_) #[true, true, true, true, true, true, true, false, false, true, true, true, false, false, true, false, false] rfl rfl (any_of HT_.out (by kernel_rfl)) (fun _ _ _ h => h) (Or.inl ⟨by rfl, ?_⟩) ?_ ?_
                          rotate_left
                          · intro w'
                            go_simp
                            with_reducible rfl
                          rotate_left
                          · simp only [Act.put, List.setIfInBounds_toArray, List.set_cons_zero, List.set_cons_succ, i64_w, i32_w]
                            rfl
                          refine one_ (i := 7) (N := some 67) #[true, true, true, true, true, true, true, true, false, true, true, true, false, false, true, false, false] rfl rfl (one_of HT_.out (by kernel_rfl)) (by decide) (fun K hK => ?_)
                          refine goes_ Tryd.func61 (by kernel_rfl) rfl #[.int .u64 (IntKind.u64.wrap (a1_1)), .int .i64 1] (by rfl) rfl rfl q_7 ?_
                          with_reducible refine (diacriticref01_Big.calls kj20 (IntKind.u64.wrap (a1_1)) 1 t504 _ A50.out).mono ?_
                          rintro e w57 ⟨rfl, hb⟩
                          refine ⟨_, rfl, ?_⟩
                          have n0_ := Aside0.mk (blk_below (g := gb492) (o := .cells #[.string a1_0, .int .i64 a1_1, .int .i64 a1_2, .int .i64 a1_3, .string a1_4, .int .i64 a1_5] 44 (0, 0)) q_91 hb)
                          have n1_ := Aside0.mk (below_step q_92 hb)
                          clear BK492
                          clear HB
                          have BK492 := n0_
                          have HB := n1_
                          clear n0_ n1_
                          (try clear hb)
                          (try clear hb2)
                          (try clear hk)
                          (try clear hi)
                          refine hK.out _ _ ⟨(blk_cell BK492.out 0).trans rfl, (blk_cell BK492.out 1).trans rfl, (blk_cell BK492.out 2).trans rfl, (blk_cell BK492.out 3).trans rfl, (blk_cell BK492.out 4).trans rfl, (blk_cell BK492.out 5).trans rfl⟩ (fun hHeld => ?_)
                          clear hK K
                          refine norm_ (a' := ?_) ?_ ?_
                          rotate_left
                          · show Act.put _ (some 67) _ = _
                            simp only [Act.put, List.setIfInBounds_toArray, List.set_cons_zero, List.set_cons_succ, i64_w, i32_w]
                            rfl
                          refine pure_ (i := 8) (N := some 68) (v := ?_) (a' := ?_) #[true, true, true, true, true, true, true, true, true, true, true, true, false, false, true, false, false] rfl rfl (any_of HT_.out (by kernel_rfl)) (fun _ _ _ h => h) (Or.inl ⟨by rfl, ?_⟩) ?_ ?_
                          rotate_left
                          · intro w'
                            go_simp
                            with_reducible rfl
                          rotate_left
                          · simp only [Act.put, List.setIfInBounds_toArray, List.set_cons_zero, List.set_cons_succ, i64_w, i32_w]
                            rfl
                          refine one_ (i := 12) (N := some 72) #[true, true, true, true, true, true, true, true, true, true, true, true, true, false, true, false, false] rfl rfl (one_of HT_.out (by kernel_rfl)) (by decide) (fun K hK => ?_)
                          refine goes_ Tryd.func61 (by kernel_rfl) rfl #[.int .u64 (IntKind.u64.wrap (a1_2)), .int .i64 1] (by rfl) rfl rfl q_7 ?_
                          with_reducible refine (diacriticref01_Big.calls kj20 (IntKind.u64.wrap (a1_2)) 1 t505 _ A52.out).mono ?_
                          rintro e w58 ⟨rfl, hb⟩
                          refine ⟨_, rfl, ?_⟩
                          have n0_ := Aside0.mk (blk_below (g := gb492) (o := .cells #[.string a1_0, .int .i64 a1_1, .int .i64 a1_2, .int .i64 a1_3, .string a1_4, .int .i64 a1_5] 44 (0, 0)) q_91 hb)
                          have n1_ := Aside0.mk (below_step q_92 hb)
                          clear BK492
                          clear HB
                          have BK492 := n0_
                          have HB := n1_
                          clear n0_ n1_
                          (try clear hb)
                          (try clear hb2)
                          (try clear hk)
                          (try clear hi)
                          refine hK.out _ _ ⟨(blk_cell BK492.out 0).trans rfl, (blk_cell BK492.out 1).trans rfl, (blk_cell BK492.out 2).trans rfl, (blk_cell BK492.out 3).trans rfl, (blk_cell BK492.out 4).trans rfl, (blk_cell BK492.out 5).trans rfl⟩ (fun hHeld => ?_)
                          clear hK K
                          refine norm_ (a' := ?_) ?_ ?_
                          rotate_left
                          · show Act.put _ (some 72) _ = _
                            simp only [Act.put, List.setIfInBounds_toArray, List.set_cons_zero, List.set_cons_succ, i64_w, i32_w]
                            rfl
                          refine pure_ (i := 13) (N := some 73) (v := ?_) (a' := ?_) #[true, true, true, true, true, true, true, true, true, true, true, true, true, true, true, false, false] rfl rfl (any_of HT_.out (by kernel_rfl)) (fun _ _ _ h => h) (Or.inl ⟨by rfl, ?_⟩) ?_ ?_
                          rotate_left
                          · intro w'
                            go_simp
                            with_reducible rfl
                          rotate_left
                          · simp only [Act.put, List.setIfInBounds_toArray, List.set_cons_zero, List.set_cons_succ, i64_w, i32_w]
                            rfl
                          refine pure_ (i := 15) (N := some 75) (v := ?_) (a' := ?_) #[true, true, true, true, true, true, true, true, true, true, true, true, true, true, true, true, false] rfl rfl (any_of HT_.out (by kernel_rfl)) (fun _ _ _ h => h) (Or.inl ⟨by rfl, ?_⟩) ?_ ?_
                          rotate_left
                          · intro w'
                            go_simp
                            with_reducible rfl
                          rotate_left
                          · simp only [Act.put, List.setIfInBounds_toArray, List.set_cons_zero, List.set_cons_succ, i64_w, i32_w]
                            rfl
                          refine pure_ (i := 16) (N := some 4) (v := ?_) (a' := ?_) #[true, true, true, true, true, true, true, true, true, true, true, true, true, true, true, true, true] rfl rfl (any_of HT_.out (by kernel_rfl)) (fun _ _ _ h => h) (Or.inl ⟨by rfl, ?_⟩) ?_ ?_
                          rotate_left
                          · intro w'
                            go_simp
                            with_reducible rfl
                          rotate_left
                          · simp only [Act.put, List.setIfInBounds_toArray, List.set_cons_zero, List.set_cons_succ, i64_w, i32_w]
                            rfl
                          refine done_ (done_of HT_.out (by kernel_rfl)) ?_
                          try go_wp2
                          go_ret
                          exact ⟨q_11, q_92⟩
                        · rw [if_neg c54] at H
                          exact absurd H (by simp)
                      · rw [if_neg c53] at H
                        exact absurd H (by simp)
                    · rw [if_neg c51] at H
                      exact absurd H (by simp)
                  · rw [if_neg c49] at H
                    exact absurd H (by simp)

end Go.Proofs.YtlmhlmendnjmlaaDoor.PAll
